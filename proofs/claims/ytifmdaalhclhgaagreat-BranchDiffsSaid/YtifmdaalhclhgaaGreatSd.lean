/-
  Branches: the difference, in the program.
-/
import Derived.Test.YtifmdaalhclhgaaGreatSa
set_option linter.unusedVariables false
set_option linter.unusedSimpArgs false
namespace Go.Abs
noncomputable section
section
variable {P:Program} {O:Orc} {H:dL}
def TY (P:Program) (O:Orc) (fv:AV) (xs:List (List AV)):Prop:=∀ (l:Nat) (J:Nat->Sto->Prop) (D:Sto->Prop) (X:AV->Sto->Prop) (s:Sto),l<s.n->
 (∀ i s s',Sim s s'->J i s->J i s')->(∀ s s',Sim s s'->D s->D s')->(∀ v s s',Sim s s'->X v s->X v s')->J 0 s->
 (∀ i x,xs[i]?=some x->∀ s,l<s.n->J i s->Wcall P O (.func (.yield l) [] []) x s (rK l (fun i u=>J i u/\s.n<=u.n) (fun u=>D u/\s.n<=u.n) (fun v u=>X v u/\s.n<=u.n) i s))->
 Wcall P O fv [.func (.yield l) [] []] s (aEb xs.length J D X s)
theorem TZ {xs:List (List AV)} {f:Operand} {ps:Array Tmp} {a b:Code} {nt:Nat} {fn:FuncId} {t:Tr AV} {ds:List ADef} {s:Sto} {r:ARec} {Q:Ex->Env->Prop} (J:Nat->Sto->Prop)
 (hI:TY P O ((Env.mk nt none fn t ds s r).eval f) xs)
 (hJ:∀ i u u',SimX (s.n+1) u u'->J i u->J i u')
 (h0:J 0 s)
 (hr:∀ i x,xs[i]?=some x->∀ u:Sto,s.n+1<u.n->u.get s.n=some (.defs (some []))->u.get (s.n+1)=some (.loop .ready none fn nt t ps.toList a b s.n)->J i u->
   ∃ t',rZ nt t ps.toList x=some t'/\Wk P O H a ⟨nt,some (s.n+1),fn,t',[],⟨u.n,u.n,u.o⟩,.no⟩
     (sO P O H (s.n+1) (fun st p=>.loop st p fn nt t ps.toList a b s.n) b (sN P (s.n+1) (fun st p=>.loop st p fn nt t ps.toList a b s.n) (fun i v=>(J i v/\v.get s.n=some (.defs (some [])))/\u.n<=v.n) (fun _ _=>False) (fun _ _=>False) i)))
 (hend:∀ u:Sto,s.n+1<u.n->u.get s.n=some (.defs (some []))->J xs.length u->Q .normal ⟨nt,none,fn,t,.collected s.n::ds,u,r⟩):
 Wk P O H (.rangeFunc f ps a b) ⟨nt,none,fn,t,ds,s,r⟩ Q:=by
 let lo:LoopState->Option Code->AObj:=fun st p=>.loop st p fn nt t ps.toList a b s.n
 let s1:=s.push (.defs (some []))
 let s2:=s1.push (lo .ready none)
 let J':Nat->Sto->Prop:=fun i u=>u.get s.n=some (.defs (some []))/\u.get (s.n+1)=some (lo .ready none)/\J i u
 have hlow:∀ (u:Sto) k,SimX (s.n+1) u {u with low:=k}:=fun u k=>(Sim.low u k).x
 have e0:s2.get s.n=some (.defs (some [])):=by
  rw [Sto.get_push_lt _ _ (Nat.lt_succ_self _)];exact Sto.get_push_same _ _
 have e1:s2.get (s.n+1)=some (lo .ready none):=Sto.get_push_same s1 _
 obtain ⟨n,res,rr,hcall,hK⟩:=hI (s.n+1) J' (fun _=>False) (fun _ _=>False) s2 (Nat.lt_succ_self _) (fun i u u' hs ⟨k1,k2,k3⟩=>⟨hs.get k1,hs.get k2,hJ _ _ _ hs.x k3⟩)
  (fun _ _ _ h=>h) (fun _ _ _ _ h=>h)
  ⟨e0,e1,hJ 0 s s2 ((Sim.push _ _).trans (Sim.push _ _)).x h0⟩
  (fun i x hx u hu ⟨k1,k2,k3⟩=>by
    obtain ⟨t',ht,hw⟩:=hr i x hx u hu k1 k2 k3;have hY:=wH (H:=H) (J:=fun i v=>(J i v/\v.get s.n=some (.defs (some [])))/\u.n<=v.n) (J':=fun i v=>J' i v/\u.n<=v.n) (D:=fun _=>False) (E:=fun _ _=>False) (X:=fun _ _=>False) k2 ht ?_ (fun _ _ _ _ h=>h.elim) (fun _ _ _ h=>h.elim) hw
    ·exact hY.mono fun res hk=>match res,hk with
      | .ret (.bool true) _,hk=>hk
      | .ret (.bool false) _,hk=>hk.2.elim
      | .pan _ _,hk=>hk.2.elim
    rintro e he k ⟨⟨q2,q1⟩,q3⟩
    exact ⟨⟨(((SimX.put e (s.n+1) _).trans (hlow _ k)).get q1 (by omega)),(Sim.low _ k).get (Sto.get_put_same _ _ he),hJ _ _ _ ((SimX.put e (s.n+1) _).trans (hlow _ k)) q2⟩,Nat.le_trans q3 ((SimX.put e (s.n+1) _).trans (hlow _ k)).1⟩)
 show W P O (.rangeFunc f ps a b) ⟨nt,none,fn,t,ds,s,r⟩ Q
 cases res with
 | ret v so=>
   rcases hK with ⟨k1,k2,k3⟩ | hK
   rotate_left
   ·exact hK.elim
   refine ⟨n,.normal,_,?_,hend ((so.getD s2).put (s.n+1) (lo .exhausted none)) (show s.n+1<(so.getD s2).n from Sto.get_lt k2) ((SimX.put _ (s.n+1) _).get k1 (by omega)) (hJ _ _ _ (SimX.put _ (s.n+1) _) k3)⟩
   show (match aL P O n ((Env.mk nt none fn t ds s r).eval f) [.func (.yield (s.n+1)) [] []] s2 .no with
    | some (.ret _ so,_)=>dO ⟨nt,none,fn,t,ds,s,r⟩ (.collected s.n::ds) (s.n+1) (match so with | some s=>s | none=>s2)
    | some (.pan v so,_)=>some (.panic v,{(Env.mk nt none fn t ds s r) with s:=(match so with | some s=>s | none=>s2),ds:=.collected s.n::ds})
    | none=>none)=_
   rw [hcall];cases so<;>simp only [Option.getD_none,Option.getD_some]at k2 ⊢<;>simp only [dO,k2,lo]
 | pan v so=>exact hK.elim
end
end
end Go.Abs
namespace Go.Proofs.YtifmdaalhclhgaaGreat
open Go.Abs Go Go.Abs.TryzF
noncomputable section
set_option maxRecDepth 10000
def lW (bo wo:List AV) (m:Nat):List (List AV):=(fW bo wo m).map fun i:Nat=>[.int .i64 (i:Nat)]
theorem uT {bo wo:List AV} {m:Nat}:lW bo wo (m+1)=lW bo wo m++(if cX (bo.getD m .top) (wo.getD m .top)=true then [] else [[.int .i64 (m:Nat)]]):=by
 simp only [lW,BK,List.map_append];cases cX (bo.getD m .top) (wo.getD m .top)<;>simp
theorem NX {bo wo:List AV} {m:Nat} (h:cX (bo.getD m .top) (wo.getD m .top)=false):∀ k,m<k->(lW bo wo k)[(lW bo wo m).length]?=some [.int .i64 (m:Nat)]
 | 0,hk=>by omega
 | k+1,hk=>by
   rw [uT];by_cases he:m=k
   ·subst he;rw [h];simp
   ·have ih:=NX h k (by omega)
    rw [List.getElem?_append_left (List.getElem?_eq_some_iff.1 ih).1];exact ih
abbrev UA (g:AV):AV:=.func (.func 121) [] [.pf g]
section
variable {os ts us is no os' ts' us' is' no':AV}
theorem GR.all (h:GR os ts us is no os' ts' us' is' no'):∀ x∈[os,ts,us,is,no,os',ts',us',is',no'],UnderE 0 x:=eO (NY h.w.und h.s.und)
theorem aKd {l n:Nat} {x:Prop} (h:l<n):(UnderE n (.func (.yield l) [] [])/\True):=⟨⟨1,by simp [AV.under];exact h⟩,trivial⟩
theorem JW (h:GR os ts us is no os' ts' us' is' no'):Abs.Returns Tryz.prog 75 [pB os ts us is no os' ts' us' is' no'] (UA (pB os ts us is no os' ts' us' is' no')):=by
 obtain ⟨c1,c2,c3,c4,c5⟩:=h.w.cells;obtain ⟨c6,c7,c8,c9,c10⟩:=h.s.cells;refine dQ (L:=[]) aF aH (by kernel_rfl) Tryz.func75 Tryz.ntmps75 Tryz.results75 rfl rfl (aA h.und aD) ?_;simp +contextual +decide (maxSteps:=1000000) only [↓ wP,wQ,Nat.reduceAdd,wS,c1,c2,c3,c4,c5,c6,c7,c8,c9,c10]
 exact cA (v:=pB os ts us is no os' ts' us' is' no') (cs:=[os,ts,us,is,no,os',ts',us',is',no']) rfl rfl fun x hx=>(h.all x hx).und
set_option maxHeartbeats 4000000 in
theorem CP (h:GR os ts us is no os' ts' us' is' no') (hol:os.els.length<=os'.els.length) {O:Orc} (h66:∀ a σ,O 121 a σ=none) (hsm:∀ a b σ,kT a->kT b->O 69 [a,b] σ=some (.ret (.bool (cX a b)) none)):
 TY Tryz.prog O (UA (pB os ts us is no os' ts' us' is' no')) (lW os.els os'.els os.els.length):=by
 obtain ⟨c1,c2,c3,c4,c5⟩:=h.w.cells;obtain ⟨c6,c7,c8,c9,c10⟩:=h.s.cells;obtain ⟨xo,ho,hox⟩:=h.w.os;obtain ⟨xo',ho',hox'⟩:=h.s.os;rw [ho.els,ho'.els]at hol ⊢;intro l J D X σ hl hJs hDs hXs hJ0 hr;refine qT (h66 _ _) (by kernel_rfl) Tryz.func121 rfl (Wk.sound (H:=fun r=>(bif Nat.beq r 3 then [7] else [],[])) ?_);show Wk _ _ _ _ ⟨31,none,121,Tr.leaf.lay 0 [.func (.yield l) [] [],.pf (pB os ts us is no os' ts' us' is' no')],[],⟨σ.n,σ.n,σ.o⟩,.no⟩ _;simp +contextual +decide (maxSteps:=1000000) only [↓ wP,wQ,tf,wS,c1,ho.len]
 refine aO (fun i e=>∃ t u,e=⟨31,none,121,t,[],u,.no⟩/\t.val 0=.func (.yield l) [] []/\t.val 1=.pf (pB os ts us is no os' ts' us' is' no')/\t.val 8=os/\t.val 9=.int .i64 (xo.length:Nat)/\t.val 10=.int .i64 (i:Nat)/\i<=xo.length/\l<u.n/\J (lW xo xo' i).length u/\((lW xo xo' i).length=0∨u.low<=l)) (fun i=>xo.length-i) 0
  ⟨_,_,rfl,by simp +decide only [↓ aB,bR,aY],by simp +decide only [↓ aB,bR,aY],by simp +decide only [↓ aB],by simp +decide only [↓ aB],by simp +decide only [↓ aB];rfl,Nat.zero_le _,hl,hJs _ _ _ (Sim.low σ σ.n) hJ0,.inl rfl⟩ ?_
 rintro i _ ⟨t,⟨n,low,o⟩,rfl,h0,h1,h8,h9,h10,hi,hln,hJ,hlow⟩
 rcases Nat.lt_or_ge i xo.length with hlt | hge
 ·obtain ⟨x,hDx,hm,hg,hd,hix,hw,hc⟩:=aW (fun x h=>tk_ob.len h) hox ho.2 hlt
  obtain ⟨x',hDx',hm',hg',hd',hix',hw',hc'⟩:=aW (fun x h=>tk_ob.len h) hox' ho'.2 (by omega:i<xo'.length)
  have hpf:=fun {d:Option AV}=>tk_ob.pf hDx (d:=d)
  have hpf':=fun {d:Option AV}=>tk_ob.pf hDx' (d:=d)
  have e1:xo.getD i .top=x:=by simp [List.getD_eq_getElem?_getD,hg]
  have e2:xo'.getD i .top=x':=by simp [List.getD_eq_getElem?_getD,hg']
  have he:=fun σ=>hsm x x' σ hDx hDx'
  have hsim:∀ lw (z:AObj),Sim ⟨n,low,o⟩ ⟨n+1,lw,o.set n z⟩:=fun lw z=>⟨Nat.le_succ _,fun id hid=>by
   have hid':id<n:=hid
   rw [Sto.get_mk (show id<n+1 by omega),Sto.get_mk hid',Tr.get_set_ne _ _ (by omega)]⟩
  have hsim2:∀ lw (z z':AObj),Sim ⟨n,low,o⟩ ⟨n+1,lw,(o.set n z').set n z⟩:=fun lw z z'=>⟨Nat.le_succ _,fun id hid=>by
   have hid':id<n:=hid
   rw [Sto.get_mk (show id<n+1 by omega),Sto.get_mk hid',Tr.get_set_ne _ _ (by omega),Tr.get_set_ne _ _ (by omega)]⟩
  obtain ⟨ys,rfl,hyl,hyc⟩:=(tk_ob x hDx).2
  have huy:∀ {n:Nat},fJ n ys:=fun {n}=>tE (eO (tk_ob _ hDx).1)
  obtain ⟨ys',rfl,hyl',hyc'⟩:=(tk_ob x' hDx').2
  have huy':∀ {n:Nat},fJ n ys':=fun {n}=>tE (eO (tk_ob _ hDx').1)
  have st':=fun {Y:Nat->Prop}=>ho'.stab (Y:=Y)
  cases hs:cX (.agg ys) (.agg ys') with
  | true=>
    have hms:lW xo xo' (i+1)=lW xo xo' i:=by rw [uT,e1,e2,hs];simp
    simp +contextual +decide (maxSteps:=1000000) only [↓ wP,wQ,tf,Nat.reduceAdd,wS,h1,h8,h9,h10,c6,ho.idx,ho'.idx,hix,hix',hc,hpf,hpf',hyl,hyc,huy,bB hyl,huy',gT,he,hs,hw];exact ⟨i+1,by show _-_<_-_;omega,_,_,rfl,by simp +decide only [↓ aB,h0],by simp +decide only [↓ aB,h1],by simp +decide only [↓ aB,h8],by simp +decide only [↓ aB,h9],by simp +decide only [↓ aB],hlt,by show l<n+1;have:l<n:=hln;omega,by rw [hms];exact hJs _ _ _ (hsim2 _ _ _) hJ,by rw [hms];exact hlow.imp id fun hh=>Nat.le_trans (Nat.min_le_right _ _) hh⟩
  | false=>
    have hms:lW xo xo' (i+1)=lW xo xo' i++[[.int .i64 (i:Nat)]]:=by rw [uT,e1,e2,hs];simp
    have hml:(lW xo xo' (i+1)).length=(lW xo xo' i).length+1:=by rw [hms,List.length_append];rfl
    simp +contextual +decide (maxSteps:=1000000) only [↓ wP,wQ,tf,Nat.reduceAdd,wS,h0,h1,h8,h9,h10,c6,ho.idx,ho'.idx,hix,hix',hc,hpf,hpf',hyl,hyc,huy,bB hyl,huy',gT,he,hs];have hcall:=hr (lW xo xo' i).length [.int .i64 (i:Nat)] (NX (by rw [e1,e2];exact hs) xo.length hlt) ⟨n+1,Nat.min n low,(o.set n (bF 0 [.int .i64 0,.int .i64 0,.nils,.nils])).set n (bF 0 ys)⟩ (by show l<n+1;have:l<n:=hln;omega) (hJs _ _ _ (hsim2 _ _ _) hJ);refine ⟨(aKd (x:=True) (show l<n+1 by have:l<n:=hln;omega)).1,hcall.mono fun res hk=>?_⟩;generalize hσ:(⟨n+1,Nat.min n low,(o.set n (bF 0 [.int .i64 0,.int .i64 0,.nils,.nils])).set n (bF 0 ys)⟩:Sto)=σ1 at *;clear hcall
    match res,hk with
    | .ret v none,_=>trivial
    | .pan v none,_=>trivial
    | .pan v (some u),hk=>
      have k:u.low<=l/\X v u/\σ1.n<=u.n:=hk;refine ⟨by rw [<-hσ]at k;exact k.2.2,?_⟩;simp +contextual +decide (maxSteps:=1000000) only [↓ wP,wQ];exact WV rfl (lF _ _ _ (X v) (hXs v) k.2.1 (.inl (Nat.lt_of_le_of_lt k.1 hl)))
    | .ret v (some u),hk=>
      have hgr:σ1.n<=u.n:=by
       cases v with
       | bool b=>cases b with
         | true=>exact hk.2.2.2
         | false=>exact hk.2.2
       | _=>exact hk.elim
      refine ⟨by rw [<-hσ]at hgr;exact hgr,?_⟩
      have k:(v=.bool true/\u.low<=l/\l<u.n/\J ((lW xo xo' i).length+1) u)∨(v=.bool false/\u.low<=l/\D u):=by
       cases v with
       | bool b=>cases b with
         | true=>exact .inl ⟨rfl,hk.1,hk.2.1,hk.2.2.1⟩
         | false=>exact .inr ⟨rfl,hk.1,hk.2.1⟩
       | _=>exact hk.elim
      rcases k with ⟨rfl,k1,k0,k2⟩ | ⟨rfl,k1,k2⟩
      ·simp +contextual +decide (maxSteps:=1000000) only [↓ wP,wQ,Nat.reduceAdd,wS,h10,hw]
       exact ⟨i+1,by show _-_<_-_;omega,_,_,rfl,by simp +decide only [↓ aB,h0],by simp +decide only [↓ aB,h1],by simp +decide only [↓ aB,h8],by simp +decide only [↓ aB,h9],by simp +decide only [↓ aB],hlt,k0,by rw [hml];exact k2,.inr k1⟩
      ·simp +contextual +decide (maxSteps:=1000000) only [↓ wP,wQ,Nat.reduceAdd,wS]
       exact oC rfl (vs:=[]) rfl (.inr (lF _ _ _ D hDs k2 (.inl (Nat.lt_of_le_of_lt k1 hl))))
 ·obtain rfl:i=xo.length:=Nat.le_antisymm hi hge
  simp +contextual +decide (maxSteps:=1000000) only [↓ wP,wQ,wS,h9,h10,aS];refine oC rfl (vs:=[]) rfl (.inl (lF _ _ _ (J (lW xo xo' xo.length).length) (hJs _) hJ ?_))
  rcases hlow with h | h
  ·refine .inr ?_
   rw [h];exact hJ0
  ·exact .inl (Nat.lt_of_le_of_lt h hl)
end
end
end Go.Proofs.YtifmdaalhclhgaaGreat
/-
 Branches: the difference,in the program,at last.
-/
namespace Go.Abs
theorem Sto.get_lt_o {s:Sto} {i:Nat} (h:i<s.n):s.get i=s.o.get i:=by rw [Sto.get_eq];exact if_pos h
end Go.Abs
namespace Go.Proofs.YtifmdaalhclhgaaGreat
open Go.Abs Go Go.Abs.TryzF
noncomputable section
set_option maxRecDepth 10000
section
variable {os ts us is no os' ts' us' is' no':AV}
abbrev xW:List AV->Option AV:=pE TGr UA
theorem changedV_ok:Abs.Ok Tryz.prog 75 xW:=sW fun a ⟨os,ts,us,is,no,os',ts',us',is',no',e,h⟩=>by subst e;exact JW h
theorem ZU {a b c d e:AV}:∀ {zs:List AV},zs.length=4->dF [a,b,c,d,e] 1 zs=a::zs
 | [_,_,_,_],_=>rfl
def DJ (G r:List AV) (B C D:AV) (U:Int) (k:Nat) (u:Sto):Prop:=u.get 0=some (bF 0 G)/\u.get 1=some (bF 0 [.nils,.nils,.nils,.nils,.int .i64 0])/\∃ v,u.get 2=some (bF 0 [v,B,C,D,.int .i64 U])/\AccM 5 5 v u.n u.o ((r.take k).map AV.cells)
theorem DJ.simx {G r:List AV} {B C D:AV} {U:Int} {k:Nat} {u u':Sto} (hx:SimX 4 u u') (h:DJ G r B C D U k u):DJ G r B C D U k u':=by
 obtain ⟨h1,h2,v,h3,h4⟩:=h
 exact ⟨hx.get h1 (by decide),hx.get h2 (by decide),v,hx.get h3 (by decide),vU h4 hx.1 fun id hlo hid=>by
  have:=hx.2 id hid (by omega)
  rwa [Sto.get_lt_o hid,Sto.get_lt_o (Nat.lt_of_lt_of_le hid hx.1)]at this⟩
theorem UB {xo':List AV} (hox':∀ x∈xo',kT x) {c:AV->AV} (hc:∀ x,kT x->kT (c x)) {i:Nat} (hi:i<xo'.length):JZ (fX c xo' i):=by
 have:kT (xo'.getD i .top):=by rw [List.getD_eq_getElem?_getD,List.getElem?_eq_getElem hi];exact hox' _ (List.getElem_mem _)
 obtain ⟨_,_,_,_,he,h1,h2,h3,h4⟩:=hc _ this;rw [fX,he];exact ⟨_,_,_,_,_,rfl,⟨_,rfl⟩,h1,h2,h3,h4⟩
theorem UC {xo xo':List AV} (hox':∀ x∈xo',kT x) (hl:xo.length<=xo'.length) {c:AV->AV} (hc:∀ x,kT x->kT (c x)):∀ x∈(fW xo xo' xo.length).map (fX c xo'),JZ x:=fun x hx=>by
 obtain ⟨i,hi,rfl⟩:=List.mem_map.1 hx;exact UB hox' hc (Nat.lt_of_lt_of_le (xF hi) hl)
set_option maxHeartbeats 8000000 in
theorem ZV (h:GR os ts us is no os' ts' us' is' no') (hol:os.els.length<=os'.els.length) (htl:ts.els.length<=ts'.els.length) (hul:us.els.length<=us'.els.length) (lo:os'.els.length<=1000) (lt:ts'.els.length<=1000) (lu:us'.els.length<=1000) (sm:∀ o∈os'.els,SmO o):
 ∃ v,kW lV (wg os ts us is no) (wg os' ts' us' is' no') v/\Abs.Returns Tryz.prog 33 [pB os ts us is no os' ts' us' is' no'] v:=by
 have hiter:∀ {O:Orc},(∀ a σ,O 121 a σ=none)->(∀ a b σ,kT a->kT b->O 69 [a,b] σ=some (.ret (.bool (cX a b)) none))->TY Tryz.prog O (UA (pB os ts us is no os' ts' us' is' no')) (lW os.els os'.els os.els.length):=fun h1 h2=>CP h hol h1 h2
 obtain ⟨c1,c2,c3,c4,c5⟩:=h.w.cells;obtain ⟨c6,c7,c8,c9,c10⟩:=h.s.cells;have e0:GO [pB os ts us is no os' ts' us' is' no']=some (.int .i64 (iJ (wg os ts us is no) (wg os' ts' us' is' no'))):=bS ⟨_,_,_,_,_,_,_,_,_,_,rfl,h⟩;have e1:xW [pB os ts us is no os' ts' us' is' no']=some (UA (pB os ts us is no os' ts' us' is' no')):=bS ⟨_,_,_,_,_,_,_,_,_,_,rfl,h⟩;have hall:=h.all;obtain ⟨xo,ho,hox⟩:=h.w.os;obtain ⟨xo',ho',hox'⟩:=h.s.os;obtain ⟨xt,ht,htx⟩:=h.w.ts;obtain ⟨xt',ht',htx'⟩:=h.s.ts;obtain ⟨xu,hu,hux⟩:=h.w.us;obtain ⟨xu',hu',hux'⟩:=h.s.us;rw [ho.els,ho'.els]at hol hiter;rw [ht.els,ht'.els]at htl;rw [hu.els,hu'.els]at hul;rw [ho'.els]at lo sm;rw [ht'.els]at lt;rw [hu'.els]at lu;obtain ⟨a1,hb1,hs1⟩:=ho'.from (k:=4) (fun x hm=>tk_ob.len (hox' x hm)) (n:=((xo.length:Nat):Int)) (by omega) (by omega);obtain ⟨a2,hb2,hs2⟩:=ht'.from (k:=1) (fun x hm=>tu_int.len (htx' x hm)) (n:=((xt.length:Nat):Int)) (by omega) (by omega);obtain ⟨a3,hb3,hs3⟩:=hu'.from (k:=2) (fun x hm=>tk_out.len (hux' x hm)) (n:=((xu.length:Nat):Int)) (by omega) (by omega);rw [Int.toNat_natCast]at hb1 hb2 hb3
 have y1:TSl kT a1:=⟨_,hb1,fun x hx=>hox' x (List.mem_of_mem_drop hx)⟩
 have y2:fG a2:=⟨_,hb2,fun x hx=>htx' x (List.mem_of_mem_drop hx)⟩
 have y3:TSl lX a3:=⟨_,hb3,fun x hx=>hux' x (List.mem_of_mem_drop hx)⟩
 have e2:OB [a1]=some (bE ((xo'.drop xo.length).map lV)):=by
  rw [OB,bS ⟨y1,by rw [hb1.els,List.length_drop];omega,fun o ho=>sm o (List.mem_of_mem_drop (hb1.els ▸ ho))⟩,hb1.els]
 have e3:CX [a2]=some (fC a2):=bS ⟨y2,by rw [hb2.els,List.length_drop];omega⟩;have e4:CY [a3]=some (fC a3):=bS ⟨y3,by rw [hb3.els,List.length_drop];omega⟩
 have z1:TSl kT (bE ((xo'.drop xo.length).map lV)):=by rw [<-hb1.els];exact aAd y1
 have z2:=BN y2;have z3:=BN y3;have k1:=gC _ z1;have k2:=aN _ z2;have k3:=cR _ z3
 have u1:=fun {m:Nat}=>k1.1.mono (Nat.zero_le m)
 have u2:=fun {m:Nat}=>k2.1.mono (Nat.zero_le m)
 have u3:=fun {m:Nat}=>k3.1.mono (Nat.zero_le m)
 have hrt:∀ x∈(fW xo xo' xo.length).map (fX lV xo'),JZ x:=UC hox' hol fun _=>nU
 have hrl:((fW xo xo' xo.length).map (fX lV xo')).length<=1000:=by rw [List.length_map];exact Nat.le_trans xZ (by omega)
 have hQ:kW lV (wg os ts us is no) (wg os' ts' us' is' no') (.agg [bE ((fW xo xo' xo.length).map (fX lV xo')),bE ((xo'.drop xo.length).map lV),fC a2,fC a3,.int .i64 (iJ (wg os ts us is no) (wg os' ts' us' is' no'))]):=by
  refine ⟨⟨_,_,_,_,_,rfl,⟨_,gK (by omega),hrt⟩,z1,z2,z3,_,rfl⟩,?_,?_,?_,?_,rfl⟩
  ·show (bE _).els=List.map (fX lV os'.els) (fW os.els os'.els os.els.length)
   rw [fB,ho.els,ho'.els]
  ·show (bE _).els=List.map lV (os'.els.drop os.els.length)
   rw [fB,ho.els,ho'.els]
  ·show (fC a2).els=ts'.els.drop ts.els.length
   rw [(uX hb2).els,ht.els,ht'.els]
  ·show (fC a3).els=us'.els.drop us.els.length
   rw [(uX hb3).els,hu.els,hu'.els]
 refine GP (L:=[ent 72 OB,ent 73 CX,ent 74 CY,ent 67 GO,ent 75 xW,ent 76 tG,ent 69 jD]) (elist_cons objects_ok.ent (elist_cons cloneI_ok.ent (elist_cons cloneO_ok.ent (elist_cons used_ok.ent (elist_cons changedV_ok.ent (elist_cons copied_ok.ent (elist_cons wSame_ok.ent aF))))))) (fun r=>(bif Nat.beq r 1 then [9,19,29,31] else bif Nat.beq r 4 then [9] else [],[])) (by kernel_rfl) Tryz.func33 Tryz.ntmps33 Tryz.results33 rfl rfl (aA h.und aD) ?_;generalize iJ (wg os ts us is no) (wg os' ts' us' is' no')=U at *;generalize hR:(fW xo xo' xo.length).map (fX lV xo')=R at *;generalize bE ((xo'.drop xo.length).map lV)=B at *;generalize fC a2=C at *;generalize fC a3=D at *
 have st1:=fun {Y:Nat->Prop}=>ho'.stab (Y:=Y)
 have st2:=fun {Y:Nat->Prop}=>ht'.stab (Y:=Y)
 have st3:=fun {Y:Nat->Prop}=>hu'.stab (Y:=Y)
 have st4:=fun {Y:Nat->Prop}=>ho.stab (Y:=Y)
 have st5:=fun {Y:Nat->Prop}=>ht.stab (Y:=Y)
 have st6:=fun {Y:Nat->Prop}=>hu.stab (Y:=Y)
 simp +contextual +decide (maxSteps:=1000000) only [↓ wP,wQ,tf,Nat.reduceAdd,wS,EL,c1,c2,c3,c4,c5,c6,c7,c8,c9,c10,ho.len,ht.len,hu.len,hs1,hs2,hs3,e0,e1,e2,e3,e4,k1.2,k2.2,k3.2,u1,u2,u3,st4,st5,st6]
 have hRk:∀ {k m:Nat},(fW xo xo' xo.length)[k]?=some m->R.take (k+1)=R.take k++[fX lV xo' m]:=fun {k m} hk=>by
  rw [<-hR,List.take_add_one,List.getElem?_map,hk];rfl
 have hRl:R.length=(fW xo xo' xo.length).length:=by rw [<-hR,List.length_map]
 refine TZ (xs:=lW xo xo' xo.length) (DJ [os,ts,us,is,no,os',ts',us',is',no'] R B C D U) ?_ ?_ ?_ ?_ ?_
 ·simp +decide only [↓ aB]
  refine hiter (fun a σ=>rfl) fun a b σ ha hb=>?_
  have:jD [a,b]=some (.bool (cX a b)):=sg2_eq ⟨ha,hb⟩;simp [bI,ent,this]<;>rfl
 ·exact fun i u u' hx hj=>hj.simx hx
 ·exact ⟨by simp +decide only [↓ aB,kG,ne_eq],by simp +decide only [↓ aB,kG,ne_eq],.nils,by simp +decide only [↓ aB,kG],.inl ⟨rfl,rfl⟩⟩
 ·rintro k x hx ⟨n,low,o⟩ hn hg1 hg2 hJ
  have hn':4<n:=hn
  obtain ⟨m,hm,rfl⟩:∃ m,(fW xo xo' xo.length)[k]?=some m/\x=[.int .i64 (m:Nat)]:=by
   rw [lW,List.getElem?_map]at hx
   cases hmk:(fW xo xo' xo.length)[k]? with
   | none=>rw [hmk]at hx;cases hx
   | some m=>rw [hmk]at hx;exact ⟨m,rfl,by simpa using hx.symm⟩
  have hml:=xF (List.mem_of_getElem? hm);have hkl:k<(fW xo xo' xo.length).length:=(List.getElem?_eq_some_iff.1 hm).1;obtain ⟨h0,h1,v,h2,hacc⟩:=hJ;have hacc':AccM 5 5 v n o ((R.take k).map AV.cells):=hacc;clear hacc;have f0:=cP (show 0<n by omega);have f1:=cP (show 1<n by omega);have f2:=cP (show 2<n by omega);have f3:=cP (show 3<n by omega);have f4:=cP (show 4<n by omega);simp +decide only [Sto.get_mk,f0,f1,f2,f3,f4,Nat.reduceAdd]at hg1 hg2 h0 h1 h2;obtain ⟨x',hDx',hm',hg',hd',hix',hw',hc'⟩:=aW (fun x h=>tk_ob.len h) hox' ho'.2 (show m<xo'.length by omega)
  have hpf':=fun {d:Option AV}=>tk_ob.pf hDx' (d:=d)
  have e2:xo'.getD m .top=x':=by simp [List.getD_eq_getElem?_getD,hg']
  have he:tG [x']=some (lV x'):=bS ⟨hDx',sm x' hm'⟩;obtain ⟨_,zs,hcp,hzl,hzc⟩:=tk_ob _ (nU hDx')
  have huz:∀ {n:Nat},fJ n zs:=fun {n}=>tE (eO (hcp ▸ (tk_ob _ (nU hDx')).1))
  have hrow:(fX lV xo' m).cells=.int .i64 (m:Nat)::zs:=by rw [fX,e2,hcp];rfl
  rw [hcp]at he;obtain ⟨ys,rfl,hyl,hyc⟩:=(tk_ob x' hDx').2
  have hz:0+4<=ys.length:=by omega
  have hz':0+5<=(AV.int .i64 (m:Nat)::zs).length:=by rw [List.length_cons];omega
  have hzl2:(AV.int .i64 (m:Nat)::zs).length=5:=by rw [List.length_cons];omega
  have htk:(R.take (k+1)).map AV.cells=(R.take k).map AV.cells++[.int .i64 (m:Nat)::zs]:=by rw [hRk hm,List.map_append,List.map_cons,List.map_nil,hrow]
  have hrl':=iK tk_dob (xs:=R.take k) fun x hx=>hrt x (List.mem_of_mem_take hx)
  have hsmall:(2*(((R.take k).map AV.cells).length+1)+1024)*72<=281474976710656/\((R.take k).map AV.cells).length+1<4611686018427387904:=by
   rw [List.length_map,List.length_take];have:=Nat.min_le_right k R.length;omega
  have hfl:((R.take k).map AV.cells).flatten.length=((R.take k).map AV.cells).length*5:=fL _ hrl';generalize (R.take k).map AV.cells=L at *;refine ⟨_,rfl,?_⟩
  rcases hacc' with ⟨hL,rfl⟩ | ⟨hL,id',g,rfl,hid,hidn,hlo⟩
  ·simp +contextual +decide (maxSteps:=1000000) only [↓ wP,wQ,tf,Nat.reduceAdd,wS,EL,f0,f2,f3,f4,gT,hg1,hg2,h0,h2,ho'.idx,hix',hpf',he,hzl,hzc,huz,ZU hzl,hzl2,bB hzl2,sO,sN,Env.setS,Nat.reduceMul]
   refine ⟨by simp +decide only [↓ aB,kG,aY,ne_eq,f0,h0],by simp +decide only [↓ aB,kG,aY,ne_eq,f1,h1],.sl (n+1) 0 0 1 (.room 5),by simp +decide only [↓ aB,kG,f2],?_⟩;rw [htk,hL];refine AccM.new (g:=0) (m:=1) ?_ rfl (by simp) (by show n+1<n+1+1;omega) (by omega);rw [show (([]:List (List AV))++[AV.int .i64 (m:Nat)::zs]).flatten=.int .i64 (m:Nat)::zs by simp]
   exact by simp +decide only [↓ aB,aY,ne_eq,f2]
  ·have f5:=cP hidn
   have f6:id'≠0/\id'≠1/\id'≠2/\id'≠3/\id'≠4/\0≠id'/\1≠id'/\2≠id'/\3≠id'/\4≠id':=by omega
   simp +contextual +decide (maxSteps:=1000000) only [↓ wP,wQ,tf,Nat.reduceAdd,wS,EL,f0,f2,f3,f4,f5,f6,hid,hsmall,hfl,gT,hg1,hg2,h0,h2,ho'.idx,hix',hpf',he,hzl,hzc,huz,ZU hzl,hzl2,bB hzl2,sO,sN,Env.setS,Nat.reduceMul,Nat.zero_add];refine ⟨by simp +decide only [↓ aB,kG,aY,ne_eq,f0,f6,h0],by simp +decide only [↓ aB,kG,aY,ne_eq,f1,f6,h1],.sl id' (g+1) 0 (L.length+1) (.room 5),by simp +decide only [↓ aB,kG,f2],?_⟩;rw [htk];refine AccM.new (g:=g+1) ?_ (by simp) (by simp) (by show id'<n+1;omega) (by omega);rw [List.flatten_append,show [AV.int .i64 (m:Nat)::zs].flatten=.int .i64 (m:Nat)::zs by simp]
   exact by simp +decide only [↓ aB,aY,ne_eq,f6]
 ·rintro ⟨n,low,o⟩ hn hg1 ⟨h0,h1,v,h2,hacc⟩
  have hn':4<n:=hn;have f0:=cP (show 0<n by omega);have f1:=cP (show 1<n by omega);have f2:=cP (show 2<n by omega);have f3:=cP (show 3<n by omega);simp +decide only [Sto.get_mk,f0,f1,f2,f3]at hg1 h0 h1 h2
  have hacc':AccM 5 5 v n o (R.map AV.cells):=by
   have e:R.take (lW xo xo' xo.length).length=R:=List.take_of_length_le (by rw [hRl,lW,List.length_map];omega);rw [e]at hacc;exact hacc
  have hvc:v.isCell=true:=(StN.acc (low:=low) hacc').cell;simp +contextual +decide (maxSteps:=1000000) only [↓ wP,wQ,tf,Nat.reduceAdd,wS,EL,f1,f2,gT,h1,h2,hvc,k1.2,k2.2,k3.2];refine ⟨rfl,_,GU (by rw [Sto.get_mk (show 3<n by omega)];exact by simp +decide only [↓ aB,ne_eq,hg1]),[.agg [v,B,C,D,.int .i64 U]],?_,?_⟩
  ·simp +contextual +decide (maxSteps:=1000000) only [↓ wP,wQ,tf,Nat.reduceAdd,wS,f1,bX,Option.bind_some]
  ·rw [Sto.put_any]
   exact ⟨.agg [bE R,B,C,D,.int .i64 U],.agg _ _ rfl (bT (rM tk_dob hrt (vU hacc' (Nat.le_refl _) fun id h1 h2=>(Tr.get_set_ne _ _ (by omega)).trans (Tr.get_set_ne _ _ (by omega))) (Nat.zero_le _)) (bT (.und _ (u1 (m:=0)).und) (bT (.und _ (u2 (m:=0)).und) (bT (.und _ (u3 (m:=0)).und) (bT (.und _ aP) mA))))),hQ⟩
end
theorem JX:Tu (TSl rP):=fK (gD tk_wd)
def rN (p:AV) (ws:List AV):Bool:=ws.all fun w=>kZ p&&rO p w
abbrev UD:List AV->Option AV:=oY (fun a b=>fH a/\TSl rP b) fun a b=>gZ (rN a b.els)
set_option maxHeartbeats 2000000 in
theorem xX:Abs.Ok Tryz.prog 29 UD:=ok2 fun a b ⟨ha,hb⟩=>by
 have hua:=(cU a ha).1;have hub:=(JX b hb).1;have ha':=ha;obtain ⟨ns,fs,mm,cs,rfl,a1,a2,a3,a4⟩:=ha;have q1:=(cM _ a1).2;have q2:=(aN _ a2).2;have q3:=(tu_int _ a3).2;have q4:=(cT _ a4).2;obtain ⟨xs,hs,hxs⟩:=hb;rw [hs.els];refine aE (L:=[ent 40 DL]) (elist_cons mCheck_ok.ent aF) aH (by kernel_rfl) Tryz.func29 Tryz.ntmps29 Tryz.results29 rfl rfl (aA hua.und (aA hub.und aD)) (by unfold gZ;split<;>exact aP) ?_
 have hsp:∃ W,W=gZ (rN (.agg [ns,fs,mm,cs]) xs):=⟨_,rfl⟩
 obtain ⟨W,hsp⟩:=hsp;rw [<-hsp];simp +contextual +decide (maxSteps:=1000000) only [↓ wP,wQ,tf,Nat.reduceAdd,wS,q1,q2,q3,q4,hs.len];refine aO (fun i e=>∃ t n low o,e=⟨21,none,29,t,[],⟨n,low,o⟩,.no⟩/\t.val 2=.ptr 0 0 0/\t.val 8=b/\t.val 9=.int .i64 (xs.length:Nat)/\t.val 10=.int .i64 (i:Nat)/\o.get 0=some (bF 0 [ns,fs,mm,cs])/\1<=n/\i<=xs.length/\W=gZ (rN (.agg [ns,fs,mm,cs]) (xs.drop i))) (fun i=>xs.length-i) 0 ⟨_,_,_,_,rfl,by simp +decide only [↓ aB],by simp +decide only [↓ aB],by simp +decide only [↓ aB],by simp +decide only [↓ aB];rfl,by simp +decide only [↓ aB],by omega,Nat.zero_le _,hsp⟩ ?_;rintro i _ ⟨t,n,low,o,rfl,t2,t8,t9,t10,g0,hn,hi,hq⟩;have f0:=cP (show 0<n by omega)
 rcases Nat.lt_or_ge i xs.length with hlt | hge
 ·obtain ⟨x,hDx,hm,hg,hd,hix,hw,hc⟩:=aW (fun x h=>tk_wd.len h) hxs hs.2 hlt
  have hpf:=fun {d:Option AV}=>tk_wd.pf hDx (d:=d)
  have he:DL [.agg [ns,fs,mm,cs],x]=some (gZ (kZ (.agg [ns,fs,mm,cs])&&rO (.agg [ns,fs,mm,cs]) x)):=sg2_eq ⟨ha',hDx⟩;obtain ⟨ys,rfl,hyl,hyc⟩:=(tk_wd x hDx).2;rw [hd,rN,List.all_cons,<-rN]at hq
  cases k2:kZ (.agg [ns,fs,mm,cs])&&rO (.agg [ns,fs,mm,cs]) (.agg ys) with
  | false=>
    rw [k2,Bool.false_and]at hq;rw [k2]at he;simp +contextual +decide (maxSteps:=1000000) only [↓ wP,wQ,tf,Nat.reduceAdd,wS,t2,t8,t9,t10,g0,f0,hs.idx,hix,hc,hpf,hyl,hyc,bB hyl,gT,he,gZ,hq]
  | true=>
    rw [k2,Bool.true_and]at hq;rw [k2]at he;simp +contextual +decide (maxSteps:=1000000) only [↓ wP,wQ,tf,Nat.reduceAdd,wS,t2,t8,t9,t10,g0,f0,hs.idx,hix,hc,hpf,hyl,hyc,bB hyl,gT,he,gZ,hw];exact ⟨i+1,by show _-_<_-_;omega,_,_,_,_,rfl,by simp +decide only [↓ aB,t2],by simp +decide only [↓ aB,t8],by simp +decide only [↓ aB,t9],by simp +decide only [↓ aB],by simp +decide only [↓ aB,aY,ne_eq,g0,f0],by omega,hlt,hq⟩
 ·obtain rfl:i=xs.length:=Nat.le_antisymm hi hge
  rw [List.drop_length,show rN (.agg [ns,fs,mm,cs]) []=true from rfl,gZ,if_pos rfl]at hq;simp +contextual +decide (maxSteps:=1000000) only [↓ wP,wQ,wS,t9,t10,aS,hq]
theorem ZW {s:Sto} {p:AV} (hp:UnderE 0 p) {ws:List AV} (hw:∀ w∈ws,rP w) {id:Nat} {cap:ACap} {n:Nat} (hn:n=ws.length) (hg:s.get id=some (bF 0 (ws.map AV.cells).flatten)):FrzL s [p,.sl id 0 0 n cap] [p,.fz ws false]:=by
 have:=xL (S:=s) (n:=0) (id:=id) (g:=0) (cap:=cap) (l:=ws.map AV.cells) (Nat.zero_le _) hg rfl (iK tk_wd hw) (yG tk_wd hw);rw [tF tk_wd hw,List.length_map]at this;subst hn;exact ⟨.und _ hp.und,this,trivial⟩
theorem ZX {ws:List AV} (hw:∀ w∈ws,rP w) (hl:ws.length<=1000):TSl rP (.fz ws false):=⟨ws,⟨.inr ⟨false,rfl⟩,by omega⟩,hw⟩
def rQ (p:AV) (ws:List AV) (args:List AV) (s:Sto):Prop:=∃ id cap,args=[p,.sl id 0 0 ws.length cap]/\s.get id=some (bF 0 (ws.map AV.cells).flatten)
theorem qN {f:FuncId} {G:List AV->Option AV} (hG:Abs.Ok Tryz.prog f G) {p:AV} (hp:UnderE 0 p) {ws:List AV} (hw:∀ w∈ws,rP w) {v:AV} (hv:G [p,.fz ws false]=some v) (hf:QU v):∀ args s,rQ p ws args s->bW Tryz.prog f args s (.ret v none):=fun args s ⟨id,cap,e,hg⟩=>by
 subst e;exact fI (hG _ _ hv) hf (ZW hp hw rfl hg)
theorem BJ {b:Bool}:QU (gZ b):=by unfold gZ;split<;>exact aBm
theorem PY {b:Bool}:QU (.bool b):=dJ
def sA (k r:Bool):AV:=if k=true then .tuple [.bool r,.int .i64 0] else .tuple [.bool false,.int .i64 2]
theorem GJ {k r:Bool}:Und 0 (sA k r):=by unfold sA;split<;>exact iG (aA aG (aA aP aD))
theorem CQ {p w:AV} (h:rO p w=true):UsB (w.fld 4):=by
 simp only [rO,pT,Bool.and_eq_true,inR,decide_eq_true_eq]at h;exact ⟨h.2.2.2.2.2.2.1,h.2.2.2.2.2.2.2⟩
theorem UE {p b w:AV} (h:rN p [b,w]=true):kZ p=true/\rO p b=true/\rO p w=true:=by
 simp only [rN,List.all_cons,List.all_nil,Bool.and_eq_true]at h;exact ⟨h.1.1,h.1.2,h.2.1.2⟩
abbrev T3W (a b c:AV):Prop:=fH a/\rP b/\rP c
abbrev CR:List AV->Option AV:=QV T3W fun p b w=>sA (rN p [b,w]) (dA b w)
set_option maxHeartbeats 4000000 in
theorem afterP_ok:Abs.Ok Tryz.prog 8 CR:=ok3 fun p b w ⟨hp,hb,hw⟩=>by
 have hup:=(cU p hp).1;have hub:=(tk_wd b hb).1;have huw:=(tk_wd w hw).1
 have hwl:∀ x∈[b,w],rP x:=fun x hx=>by simp at hx;rcases hx with rfl | rfl<;>assumption
 have hB:=qN xX hup hwl (v:=gZ (rN p [b,w])) (sg2_eq ⟨hp,ZX hwl (by simp)⟩) BJ
 have hgr:rN p [b,w]=true->yA [.agg (b.cells++w.cells)]=some (.bool (dA b w)):=fun h=>by
  obtain ⟨os,ts,us,is,no,rfl,a1,a2,a3,a4,a5⟩:=hb;obtain ⟨os',ts',us',is',no',rfl,b1,b2,b3,b4,b5⟩:=hw;obtain ⟨_,k1,k2⟩:=UE h;exact bS (a:=pB os ts us is no os' ts' us' is' no') ⟨_,_,_,_,_,_,_,_,_,_,rfl,⟨a1,a2,a3,a4,a5⟩,⟨b1,b2,b3,b4,b5⟩,CQ k1,CQ k2⟩
 obtain ⟨E,hE⟩:∃ E,E=gZ (rN p [b,w]):=⟨_,rfl⟩
 rw [<-hE]at hB
 have he:∀ {s:Sto},s.get 3=some (bF 0 ([b,w].map AV.cells).flatten)->bI [entB 29 (rQ p [b,w]) fun _=>E] 29 [p,.sl 3 0 0 2 (.is 2)] s=some (.ret E none):=fun {s} hs=>bQ ⟨3,.is 2,rfl,hs⟩
 refine aE (L:=[ent 30 yA,entB 29 (rQ p [b,w]) fun _=>E]) (elist_cons after_ok.ent (elist_cons (entB_ok hB) aF)) aH (by kernel_rfl) Tryz.func8 Tryz.ntmps8 Tryz.results8 rfl rfl (aA hup.und (aA hub.und (aA huw.und aD))) GJ ?_;obtain ⟨ns,fs,mm,cs,rfl,r1,r2,r3,r4⟩:=hp;obtain ⟨os,ts,us,is,no,rfl,a1,a2,a3,a4,a5⟩:=hb;obtain ⟨os',ts',us',is',no',rfl,b1,b2,b3,b4,b5⟩:=hw;obtain ⟨c1,c2,c3,c4,c5⟩:=(show WG os ts us is no from ⟨a1,a2,a3,a4,a5⟩).cells;obtain ⟨c6,c7,c8,c9,c10⟩:=(show WG os' ts' us' is' no' from ⟨b1,b2,b3,b4,b5⟩).cells;have q1:=(cM _ r1).2;have q2:=(aN _ r2).2;have q3:=(tu_int _ r3).2;have q4:=(cT _ r4).2;simp only [AV.cells,List.cons_append,List.nil_append]at hgr;simp only [List.map_cons,List.map_nil,AV.cells,List.flatten_cons,List.flatten_nil,List.cons_append,List.nil_append]at he
 cases k:rN (.agg [ns,fs,mm,cs]) [.agg [os,ts,us,is,no],.agg [os',ts',us',is',no']] with
 | false=>
   rw [k]at hE;have hE':E=.int .i64 2:=hE;subst hE';simp +contextual +decide (maxSteps:=1000000) only [↓ wP,wQ,tf,Nat.reduceAdd,wS,c1,c2,c3,c4,c5,c6,c7,c8,c9,c10,q1,q2,q3,q4,he,tA,Nat.reduceMul,sA]
 | true=>
   rw [k]at hE;have hE':E=.int .i64 0:=hE;subst hE';simp +contextual +decide (maxSteps:=1000000) only [↓ wP,wQ,tf,Nat.reduceAdd,wS,c1,c2,c3,c4,c5,c6,c7,c8,c9,c10,q1,q2,q3,q4,he,hgr k,tA,Nat.reduceMul,sA]
def zD:AV:=.agg [.nils,.nils,.nils,.nils,.int .i64 0]
def aHo (c:AV->AV) (k:Bool) (b w r:AV):Prop:=∃ v e,r=.tuple [v,.int .i64 e]/\vW v/\(k=false->e=2)/\(k=true->dA b w=false->e=7)/\((k=true/\dA b w=true)->e=0/\kW c b w v)/\(¬ (k=true/\dA b w=true)->v=zD)
theorem sZ:vW zD:=⟨_,_,_,_,_,rfl,⟨[],⟨.inl ⟨rfl,rfl⟩,by simp⟩,by simp⟩,⟨[],⟨.inl ⟨rfl,rfl⟩,by simp⟩,by simp⟩,⟨[],⟨.inl ⟨rfl,rfl⟩,by simp⟩,by simp⟩,⟨[],⟨.inl ⟨rfl,rfl⟩,by simp⟩,by simp⟩,_,rfl⟩
section
variable {p b w:AV}
theorem und_zD:UnderE 0 zD:=(nS _ sZ).1
theorem CS {b w:AV} (h:dA b w=true):(b.fld 0).els.length<=(w.fld 0).els.length/\(b.fld 1).els.length<=(w.fld 1).els.length/\(b.fld 2).els.length<=(w.fld 2).els.length:=by
 simp only [dA,GK,GL,Bool.and_eq_true,decide_eq_true_eq]at h;exact ⟨h.1,h.2.1.1,h.2.2.1.1⟩
set_option maxHeartbeats 8000000 in
theorem UF (hp:fH p) (hb:rP b) (hw:rP w) (hsm:SmW w):∃ r,aHo lV (rN p [b,w]) b w r/\Abs.Returns Tryz.prog 10 [p,b,w] r:=by
 have hup:=(cU p hp).1;have hub:=(tk_wd b hb).1;have huw:=(tk_wd w hw).1
 have hwl:∀ x∈[b,w],rP x:=fun x hx=>by simp at hx;rcases hx with rfl | rfl<;>assumption
 have hB:=qN xX hup hwl (v:=gZ (rN p [b,w])) (sg2_eq ⟨hp,ZX hwl (by simp)⟩) BJ
 have hgr:rN p [b,w]=true->yA [.agg (b.cells++w.cells)]=some (.bool (dA b w))/\(dA b w=true->∃ v,kW lV b w v/\Abs.Returns Tryz.prog 33 [.agg (b.cells++w.cells)] v):=fun h=>by
  obtain ⟨os,ts,us,is,no,rfl,a1,a2,a3,a4,a5⟩:=hb;obtain ⟨os',ts',us',is',no',rfl,b1,b2,b3,b4,b5⟩:=hw;obtain ⟨_,k1,k2⟩:=UE h
  have hG:GR os ts us is no os' ts' us' is' no':=⟨⟨a1,a2,a3,a4,a5⟩,⟨b1,b2,b3,b4,b5⟩,CQ k1,CQ k2⟩
  refine ⟨bS (a:=pB os ts us is no os' ts' us' is' no') ⟨_,_,_,_,_,_,_,_,_,_,rfl,hG⟩,fun ha=>?_⟩;obtain ⟨q1,q2,q3⟩:=CS ha;obtain ⟨⟨s1,s2⟩,s3,s4,s5⟩:=hsm;exact ZV hG q1 q2 q3 s1 s3 s4 s2
 obtain ⟨ns,fs,mm,cs,rfl,r1,r2,r3,r4⟩:=hp;obtain ⟨os,ts,us,is,no,rfl,a1,a2,a3,a4,a5⟩:=hb;obtain ⟨os',ts',us',is',no',rfl,b1,b2,b3,b4,b5⟩:=hw;obtain ⟨c1,c2,c3,c4,c5⟩:=(show WG os ts us is no from ⟨a1,a2,a3,a4,a5⟩).cells;obtain ⟨c6,c7,c8,c9,c10⟩:=(show WG os' ts' us' is' no' from ⟨b1,b2,b3,b4,b5⟩).cells;have q1:=(cM _ r1).2;have q2:=(aN _ r2).2;have q3:=(tu_int _ r3).2;have q4:=(cT _ r4).2;simp only [AV.cells,List.cons_append,List.nil_append]at hgr
 have key:∀ v,Abs.Returns Tryz.prog 33 [pB os ts us is no os' ts' us' is' no'] v∨¬ (rN (.agg [ns,fs,mm,cs]) [.agg [os,ts,us,is,no],.agg [os',ts',us',is',no']]=true/\dA (.agg [os,ts,us,is,no]) (.agg [os',ts',us',is',no'])=true)->∀ r,(r=.tuple [v,.int .i64 0]->vW v)->(rN (.agg [ns,fs,mm,cs]) [.agg [os,ts,us,is,no],.agg [os',ts',us',is',no']]=false->r=.tuple [zD,.int .i64 2])->(rN (.agg [ns,fs,mm,cs]) [.agg [os,ts,us,is,no],.agg [os',ts',us',is',no']]=true->dA (.agg [os,ts,us,is,no]) (.agg [os',ts',us',is',no'])=false->r=.tuple [zD,.int .i64 7])->(rN (.agg [ns,fs,mm,cs]) [.agg [os,ts,us,is,no],.agg [os',ts',us',is',no']]=true->dA (.agg [os,ts,us,is,no]) (.agg [os',ts',us',is',no'])=true->r=.tuple [v,.int .i64 0])->Abs.Returns Tryz.prog 10 [.agg [ns,fs,mm,cs],.agg [os,ts,us,is,no],.agg [os',ts',us',is',no']] r:=by
  intro v hv r ht h1 h2 h3
  have hvv:∀ {x:Prop},(Abs.Returns Tryz.prog 33 [pB os ts us is no os' ts' us' is' no'] v->x)->(¬ (rN (.agg [ns,fs,mm,cs]) [.agg [os,ts,us,is,no],.agg [os',ts',us',is',no']]=true/\dA (.agg [os,ts,us,is,no]) (.agg [os',ts',us',is',no'])=true)->x)->x:=fun f g=>hv.elim f g
  have hL:∀ (T:List nE) (hT:∀ x∈T,dG Tryz.prog x),∀ x∈(ent 30 yA::entB 29 (rQ (.agg [ns,fs,mm,cs]) [.agg [os,ts,us,is,no],.agg [os',ts',us',is',no']]) (fun _=>gZ (rN (.agg [ns,fs,mm,cs]) [.agg [os,ts,us,is,no],.agg [os',ts',us',is',no']]))::T),dG Tryz.prog x:=fun T hT=>elist_cons after_ok.ent (elist_cons (entB_ok hB) hT)
  have he:∀ {T:List nE} {s:Sto},s.get 4=some (bF 0 [os,ts,us,is,no,os',ts',us',is',no'])->bI (entB 29 (rQ (.agg [ns,fs,mm,cs]) [.agg [os,ts,us,is,no],.agg [os',ts',us',is',no']]) (fun _=>gZ (rN (.agg [ns,fs,mm,cs]) [.agg [os,ts,us,is,no],.agg [os',ts',us',is',no']]))::T) 29 [.agg [ns,fs,mm,cs],.sl 4 0 0 2 (.is 2)] s=some (.ret (gZ (rN (.agg [ns,fs,mm,cs]) [.agg [os,ts,us,is,no],.agg [os',ts',us',is',no']])) none):=fun {T s} hs=>bQ ⟨4,.is 2,rfl,hs⟩
  have huu:=aA hup.und (aA hub.und (aA huw.und aD))
  have hzz:Und 0 (.tuple [zD,.int .i64 2])/\Und 0 (.tuple [zD,.int .i64 7]):=⟨iG (aA und_zD.und (aA aP aD)),iG (aA und_zD.und (aA aP aD))⟩
  cases k:rN (.agg [ns,fs,mm,cs]) [.agg [os,ts,us,is,no],.agg [os',ts',us',is',no']] with
  | false=>
    rw [h1 k];rw [k]at hL he;simp only [gZ,if_false,Bool.false_eq_true]at hL he;refine aE (hL [] aF) aH (by kernel_rfl) Tryz.func10 Tryz.ntmps10 Tryz.results10 rfl rfl huu hzz.1 ?_;simp +contextual +decide (maxSteps:=1000000) only [↓ wP,wQ,tf,Nat.reduceAdd,wS,c1,c2,c3,c4,c5,c6,c7,c8,c9,c10,q1,q2,q3,q4,he,tA,Nat.reduceMul,zD,bX,Option.bind_some]
  | true=>
  have hg1:=(hgr k).1
  cases k2:dA (.agg [os,ts,us,is,no]) (.agg [os',ts',us',is',no']) with
  | false=>
    rw [h2 k k2];rw [k]at hL he;simp only [gZ,if_true]at hL he;rw [k2]at hg1;refine aE (hL [] aF) aH (by kernel_rfl) Tryz.func10 Tryz.ntmps10 Tryz.results10 rfl rfl huu hzz.2 ?_;simp +contextual +decide (maxSteps:=1000000) only [↓ wP,wQ,tf,Nat.reduceAdd,wS,c1,c2,c3,c4,c5,c6,c7,c8,c9,c10,q1,q2,q3,q4,he,hg1,tA,Nat.reduceMul,zD,bX,Option.bind_some]
  | true=>
    have hr:=h3 k k2;have htd:=ht hr
    have hret:Abs.Returns Tryz.prog 33 [pB os ts us is no os' ts' us' is' no'] v:=hvv id fun hn=>absurd ⟨k,k2⟩ hn
    rw [hr];rw [k]at hL he;simp only [gZ,if_true]at hL he;rw [k2]at hg1;obtain ⟨huz,zs,rfl,hzl,hzc⟩:=nS _ htd
    have hz:0+5<=zs.length:=by omega
    refine aE (hL [oB 33 [pB os ts us is no os' ts' us' is' no'] (.agg zs)] (elist_cons (eD hret) aF)) aH (by kernel_rfl) Tryz.func10 Tryz.ntmps10 Tryz.results10 rfl rfl huu (iG (aA huz.und (aA aP aD))) ?_;simp +contextual +decide (maxSteps:=1000000) only [↓ wP,wQ,tf,Nat.reduceAdd,wS,c1,c2,c3,c4,c5,c6,c7,c8,c9,c10,q1,q2,q3,q4,he,hg1,tA,Nat.reduceMul,OP,cY,hzl,hzc,bB hzl,bX,Option.bind_some]
 cases k:rN (.agg [ns,fs,mm,cs]) [.agg [os,ts,us,is,no],.agg [os',ts',us',is',no']] with
 | false=>
   refine ⟨_,⟨zD,2,rfl,sZ,fun _=>rfl,fun h=>(nomatch h),fun h=>(nomatch h.1),fun _=>rfl⟩,key zD (.inr (by rw [k];exact fun h=>nomatch h.1)) _ (fun h=>by simp at h) (fun _=>rfl) (fun h=>by rw [k]at h;cases h) (fun h=>by rw [k]at h;cases h)⟩
 | true=>
   cases k2:dA (.agg [os,ts,us,is,no]) (.agg [os',ts',us',is',no']) with
   | false=>
     refine ⟨_,⟨zD,7,rfl,sZ,fun h=>(nomatch h),fun _ _=>rfl,fun h=>(by rw [k2]at h;exact (nomatch h.2)),fun _=>rfl⟩,key zD (.inr (by rw [k2];exact fun h=>nomatch h.2)) _ (fun h=>by simp at h) (fun h=>by rw [k]at h;cases h) (fun _ _=>rfl) (fun _ h=>by rw [k2]at h;cases h)⟩
   | true=>
     obtain ⟨v,hv,hret⟩:=(hgr k).2 k2;refine ⟨_,⟨v,0,rfl,hv.1,fun h=>(nomatch h),fun _ h=>(by rw [k2]at h;cases h),fun _=>⟨rfl,hv⟩,fun h=>absurd ⟨rfl,k2⟩ h⟩,key v (.inl hret) _ (fun _=>hv.1) (fun h=>(by rw [k]at h;cases h)) (fun _ h=>(by rw [k2]at h;cases h)) (fun _ _=>rfl)⟩
end
end
end Go.Proofs.YtifmdaalhclhgaaGreat
