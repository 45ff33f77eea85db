/-
  Points: the state while it is looked at.
-/
import Derived.Test.YtkocnhkbgcjpbaaGreatPj
set_option linter.unusedVariables false
set_option linter.unusedSimpArgs false
namespace Go.Proofs.YtkocnhkbgcjpbaaGreat
open Go.Abs Go Go.Abs.TryzF
noncomputable section
set_option maxRecDepth 10000
def oR (os ts us is no ns fs mm cs os' ts' us' is' no' d g:AV):List AV:=[os,ts,us,is,no,ns,fs,mm,cs,os',ts',us',is',no',d,g]
def pG (l:List AV) (i:Nat):Bool:=rP (l.getD i (.bool false))
def vD (m:Nat) (xd xg:List AV) (i:Nat):Int:=if m<=i then 0 else if pG xd i=true then (if pG xg i=true then 3 else 2) else 1
section
variable {os ts us is no ns fs mm cs os' ts' us' is' no' d g:AV}
set_option maxHeartbeats 2000000 in
theorem HL {xo xd xg:List AV} {lo hi lo' hi' lg hg':Nat} {s:Sto} (ho:StN lo hi s os' xo) (hd:StN lo' hi' s d xd) (hg:StN lg hg' s g xg) (hlen:xg.length<=1000) (hdt:∀ x∈xd,oD x) (hgt:∀ x∈xg,oD x) (hdl:xd.length=xo.length) (hgl:xo.length<=xg.length) {id i:Nat} (hi:i<xg.length) (hs:s.get id=some (aS 0 (oR os ts us is no ns fs mm cs os' ts' us' is' no' d g))):
 bG Tryz.prog 96 [.ptr id 0 0,.int .i64 (i:Nat)] s (.ret (.int .i64 (vD xo.length xd xg i)) none):=by
 refine DN (L:=[]) aE aH (by kernel_rfl) Tryz.func96 Tryz.ntmps96 Tryz.results96 rfl rfl ?_;have hlt:=Sto.get_lt hs;have hcg:=hg.cell;by_cases k1:xo.length<=i
 ·obtain ⟨n0,low0,o0⟩:=s
  have hlt':id<n0:=hlt
  have g0:o0.get id=some (aS 0 (oR os ts us is no ns fs mm cs os' ts' us' is' no' d g)):=by rw [Sto.get_mk hlt']at hs;exact hs
  unfold oR at g0;have f0:=dC hlt';have k2:(((i:Nat):Int) ≥ ((xo.length:Nat):Int))=True:=eq_true (by omega);have k2':(((xo.length:Nat):Int)<=((i:Nat):Int))=True:=k2;rw [vD,if_pos k1];simp +contextual +decide (maxSteps:=1000000) only [↓ wP,wQ,tf,Nat.reduceAdd,wS,reduceCtorEq,g0,f0,ho.len,k2];exact ⟨_,none,rfl,bS (S:=⟨n0,n0,o0⟩) (Nat.le_refl n0) aQ⟩
 ·have k2:(((i:Nat):Int) ≥ ((xo.length:Nat):Int))=False:=eq_false (by omega)
  have k2':(((xo.length:Nat):Int)<=((i:Nat):Int))=False:=k2
  have hid:i<xd.length:=by omega
  have k3:(((i:Nat):Int)<((xd.length:Nat):Int))=True:=eq_true (by omega);have k4:(0<=((i:Nat):Int))=True:=eq_true (by omega);obtain ⟨idd,gd,cd,rfl,gd0,_,_,fd0⟩:=hd.at_ hid;rw [cV fun x hx=>(tu_bool x (hdt x hx)).2]at gd0;obtain ⟨idg,gg,cg,rfl,gg0,_,_,fg0⟩:=hg.at_ hi;rw [cV fun x hx=>(tu_bool x (hgt x hx)).2]at gg0;have k6:(((i:Nat):Int)<((xg.length:Nat):Int))=True:=eq_true (by omega);obtain ⟨y,hDy,hm,hgy,_,hix,_,hc⟩:=aZ (fun x h=>tu_bool.len h) hdt (show xd.length<=9223372036854775807 by omega) hid;obtain ⟨z,hDz,hmz,hgz,_,hixz,_,hcz⟩:=aZ (fun x h=>tu_bool.len h) hgt (show xg.length<=9223372036854775807 by omega) hi
  have e1:pG xd i=rP y:=by simp [pG,List.getD_eq_getElem?_getD,hgy]
  have e2:pG xg i=rP z:=by simp [pG,List.getD_eq_getElem?_getD,hgz]
  rw [vD,if_neg k1,e1,e2];obtain ⟨n0,low0,o0⟩:=s;have hlt':id<n0:=hlt;have fd0':idd<n0:=fd0;have fg0':idg<n0:=fg0;rw [Sto.get_mk fg0']at gg0;have f2:=dC fg0'
  have g0:o0.get id=some (aS 0 (oR os ts us is no ns fs mm cs os' ts' us' is' no' (.sl idd gd 0 xd.length cd) (.sl idg gg 0 xg.length cg))):=by rw [Sto.get_mk hlt']at hs;exact hs
  rw [Sto.get_mk fd0']at gd0;unfold oR at g0;have f0:=dC hlt';have f1:=dC fd0';obtain ⟨b,rfl⟩:=hDy;obtain ⟨b',rfl⟩:=hDz
  cases b with
  | false=>
    simp +contextual +decide (maxSteps:=1000000) only [↓ wP,wQ,tf,Nat.reduceAdd,wS,reduceCtorEq,g0,f0,ho.len,k2,gd0,f1,k3,k4,hgy,Int.toNat_natCast,Nat.mul_one,Nat.zero_add];exact ⟨_,none,rfl,bS (S:=⟨n0,n0,o0⟩) (Nat.le_refl n0) aQ⟩
  | true=>
    cases b' with
    | false=>
      simp +contextual +decide (maxSteps:=1000000) only [↓ wP,wQ,tf,Nat.reduceAdd,wS,reduceCtorEq,g0,f0,ho.len,k2,gd0,f1,k3,k4,hgy,Int.toNat_natCast,Nat.mul_one,Nat.zero_add,gg0,f2,k6,hgz];exact ⟨_,none,rfl,bS (S:=⟨n0,n0,o0⟩) (Nat.le_refl n0) aQ⟩
    | true=>
      simp +contextual +decide (maxSteps:=1000000) only [↓ wP,wQ,tf,Nat.reduceAdd,wS,reduceCtorEq,g0,f0,ho.len,k2,gd0,f1,k3,k4,hgy,Int.toNat_natCast,Nat.mul_one,Nat.zero_add,gg0,f2,k6,hgz];exact ⟨_,none,rfl,bS (S:=⟨n0,n0,o0⟩) (Nat.le_refl n0) aQ⟩
end
def gK (xo' xo xd xg:List AV) (i:Nat):Bool:=
 if xo'.length<=i then pG xg i else if pG xd i=true then (if pG xg i=true then true else eC (xo'.getD i .top) (xo.getD i .top)) else !pG xg i&&zX (xo'.getD i .top)
section
variable {os ts us is no ns fs mm cs os' ts' us' is' no' d g:AV}
set_option maxHeartbeats 4000000 in
theorem HM {xo xo' xd xg:List AV} {lw hw' lo hi lo' hi' lg hg':Nat} {s:Sto} (ho:StN lw hw' s os xo) (hlen:xo.length<=1000) (hot:∀ x∈xo,nG x) (ho':StN lo hi s os' xo') (hot':∀ x∈xo',nG x) (hd:StN lo' hi' s d xd) (hg:StN lg hg' s g xg) (hdt:∀ x∈xd,oD x) (hgt:∀ x∈xg,oD x) (hdl:xd.length=xo'.length) (hol:xo'.length<=xo.length) (hgl:xg.length=xo.length) {id i:Nat} (hil:i<xo.length) (hs:s.get id=some (aS 0 (oR os ts us is no ns fs mm cs os' ts' us' is' no' d g))):
 bG Tryz.prog 65 [.ptr id 0 0,.int .i64 (i:Nat)] s (if gK xo' xo xd xg i=true then .ret (.tuple []) none else .pan iC none):=by
 have hkeep:∀ {lo hi:Nat} {s:Sto} {a:AV} {xs:List AV} (low:Nat),StN lo hi s a xs->StN lo hi ⟨s.n,low,s.o⟩ a xs:=fun low h=>h.keep fun id h1 _ _=>by rw [Sto.get_mk h1];obtain ⟨_,_,_⟩:=‹Sto›;rw [Sto.get_mk h1]
 refine DN (L:=[jG 63 LI,entB 96 (fun args S=>args=[.ptr id 0 0,.int .i64 (i:Nat)]/\S.get id=some (aS 0 (oR os ts us is no ns fs mm cs os' ts' us' is' no' d g))/\StN lo hi S os' xo'/\StN lo' hi' S d xd/\StN lg hg' S g xg) fun _=>.int .i64 (vD xo'.length xd xg i),ent 57 mX]) (elist_cons (eS CQ) (elist_cons (entB_ok fun args S h=>by rw [h.1];exact HL h.2.2.1 h.2.2.2.1 h.2.2.2.2 (show xg.length<=1000 by omega) hdt hgt hdl (by omega) (show i<xg.length by omega) h.2.1) (elist_cons wSame_ok.ent aE))) (fun _=>([16],[])) (by kernel_rfl) Tryz.func65 Tryz.ntmps65 Tryz.results65 rfl rfl ?_;have hlt:=Sto.get_lt hs;generalize hL:([jG 63 LI,entB 96 (fun args S=>args=[.ptr id 0 0,.int .i64 (i:Nat)]/\S.get id=some (aS 0 (oR os ts us is no ns fs mm cs os' ts' us' is' no' d g))/\StN lo hi S os' xo'/\StN lo' hi' S d xd/\StN lg hg' S g xg) fun _=>.int .i64 (vD xo'.length xd xg i),ent 57 mX]:List kS)=L
 have l1:∀ b S,aV L 63 [.bool b] S=some (if b=true then .ret (.tuple []) none else .pan iC none):=fun b S=>by rw [<-hL];exact LJ
 have l2:∀ low,aV L 96 [.ptr id 0 0,.int .i64 (i:Nat)] ⟨s.n,low,s.o⟩=some (.ret (.int .i64 (vD xo'.length xd xg i)) none):=fun low=>by
  rw [<-hL,bL (by decide)];exact cR ⟨rfl,by rw [Sto.get_mk hlt];obtain ⟨_,_,_⟩:=s;rw [Sto.get_mk hlt]at hs;exact hs,hkeep low ho',hkeep low hd,hkeep low hg⟩
 have l3:∀ x y S,nG x->nG y->aV L 57 [x,y] S=some (.ret (.bool (eC x y)) none):=fun x y S hx hy=>by
  have:mX [x,y]=some (.bool (eC x y)):=sg2_eq ⟨hx,hy⟩;rw [<-hL,bL (by decide),aIp (by decide)];simp [aV,ent,this]<;>rfl
 clear hL;obtain ⟨z,hDz,hmz,hgz,_,hixz,_,hcz⟩:=aZ (fun x h=>tu_bool.len h) hgt (show xg.length<=9223372036854775807 by omega) (show i<xg.length by omega);obtain ⟨idg,gg,cg,rfl,gg0,_,_,fg0⟩:=hg.at_ (show i<xg.length by omega);rw [cV fun x hx=>(tu_bool x (hgt x hx)).2]at gg0;have k6:(((i:Nat):Int)<((xg.length:Nat):Int))=True:=eq_true (by omega);have k4:(0<=((i:Nat):Int))=True:=eq_true (by omega)
 have e2:pG xg i=rP z:=by simp [pG,List.getD_eq_getElem?_getD,hgz]
 rw [gK,e2];obtain ⟨b',rfl⟩:=hDz;rw [vD,e2]at l2;by_cases k1:xo'.length<=i
 ·obtain ⟨n0,low0,o0⟩:=s
  have hlt':id<n0:=hlt;have fg0':idg<n0:=fg0;rw [Sto.get_mk fg0']at gg0;have f2:=dC fg0'
  have g0:o0.get id=some (aS 0 (oR os ts us is no ns fs mm cs os' ts' us' is' no' d (.sl idg gg 0 xg.length cg))):=by rw [Sto.get_mk hlt']at hs;exact hs
  unfold oR at g0;have f0:=dC hlt';rw [if_pos k1]at l2 ⊢;have l1':=l1 b'
  cases b' with
  | true=>
    simp only [if_true]at l1';simp +contextual +decide (maxSteps:=1000000) only [↓ wP,wQ,tf,wS,reduceCtorEq,g0,f0,l2,gg0,f2,k6,k4,hgz,Int.toNat_natCast,Nat.mul_one,Nat.zero_add,l1'];exact ⟨_,none,rfl,bS (S:=⟨n0,n0,o0⟩) (Nat.le_refl n0) (eZ fun x hx=>nomatch hx)⟩
  | false=>
    simp +contextual +decide (maxSteps:=1000000) only [↓ wP,wQ,tf,wS,reduceCtorEq,g0,f0,l2,gg0,f2,k6,k4,hgz,Int.toNat_natCast,Nat.mul_one,Nat.zero_add,l1'];exact ⟨_,none,rfl,bS (S:=⟨n0,n0,o0⟩) (Nat.le_refl n0) pI⟩
 ·have k3:(((i:Nat):Int)<((xo'.length:Nat):Int))=True:=eq_true (by omega)
  obtain ⟨y,hDy,hm,hgy,_,hix,_,hc⟩:=aZ (fun x h=>tu_bool.len h) hdt (show xd.length<=9223372036854775807 by omega) (show i<xd.length by omega);obtain ⟨x,hDx,hmx,hgx,_,hixx,_,hcx⟩:=aZ (fun x h=>tk_ob.len h) hot (show xo.length<=9223372036854775807 by omega) hil;obtain ⟨x',hDx',hmx',hgx',_,hixx',_,hcx'⟩:=aZ (fun x h=>tk_ob.len h) hot' (show xo'.length<=9223372036854775807 by omega) (show i<xo'.length by omega);obtain ⟨ido,gdo,cdo,rfl,go0,_,_,fo0⟩:=ho'.at_ (show i<xo'.length by omega);obtain ⟨hrow,hrl⟩:=qI (fun x hx=>tk_ob.len (hot' x hx)) hgx';obtain ⟨idw,gdw,cdw,rfl,gw0,_,_,fw0⟩:=ho.at_ hil;obtain ⟨hroww,hrlw⟩:=qI (fun x hx=>tk_ob.len (hot x hx)) hgx;have k7:(((i:Nat):Int)<((xo.length:Nat):Int))=True:=eq_true (by omega);clear ho ho';generalize (xo'.map AV.cells).flatten=Ro at *;generalize (xo.map AV.cells).flatten=Rw at *
  have hagw:(AV.agg x.cells)=x:=by obtain ⟨_,_,_,_,rfl,_⟩:=hDx;rfl
  have e1:pG xd i=rP y:=by simp [pG,List.getD_eq_getElem?_getD,hgy]
  have e3:xo'.getD i .top=x':=by simp [List.getD_eq_getElem?_getD,hgx']
  have e4:xo.getD i .top=x:=by simp [List.getD_eq_getElem?_getD,hgx]
  obtain ⟨n0,low0,o0⟩:=s;have hlt':id<n0:=hlt;have fo0':ido<n0:=fo0;have fw0':idw<n0:=fw0;rw [Sto.get_mk fw0']at gw0;have f3:=dC fw0';have fg0':idg<n0:=fg0;rw [Sto.get_mk fg0']at gg0;have f2:=dC fg0'
  have g0:o0.get id=some (aS 0 (oR (.sl idw gdw 0 xo.length cdw) ts us is no ns fs mm cs (.sl ido gdo 0 xo'.length cdo) ts' us' is' no' d (.sl idg gg 0 xg.length cg))):=by rw [Sto.get_mk hlt']at hs;exact hs
  rw [Sto.get_mk fo0']at go0;unfold oR at g0;have f0:=dC hlt';have f1:=dC fo0';rw [if_neg k1,e1]at l2;rw [if_neg k1,e1,e3,e4];obtain ⟨b,rfl⟩:=hDy
  have hag:(AV.agg x'.cells)=x':=by obtain ⟨_,_,_,_,rfl,_⟩:=hDx';rfl
  have l3':=fun S=>l3 x' x S hDx' hDx
  have l3b:∀ S,aV L 57 [x',.agg [.int .i64 0,.int .i64 0,.nils,.nils]] S=some (.ret (.bool (eC x' CR)) none):=fun S=>l3 x' CR S hDx' LS
  rw [show zX x'=eC x' CR from rfl]
  cases b with
  | false=>
    cases b' with
    | true=>
      have l1':=l1 false;simp +contextual +decide (maxSteps:=1000000) only [↓ wP,wQ,tf,wS,g0,f0,l2,gg0,f2,k6,k4,hgz,Int.toNat_natCast,Nat.mul_one,Nat.zero_add,l1'];exact ⟨_,none,rfl,bS (S:=⟨n0,n0,o0⟩) (Nat.le_refl n0) pI⟩
    | false=>
      have l1':=l1 (eC x' CR)
      cases k5:eC x' CR with
      | true=>
        rw [k5]at l1' l3b;simp +contextual +decide (maxSteps:=1000000) only [↓ wP,wQ,tf,Nat.reduceAdd,wS,reduceCtorEq,g0,f0,l2,gg0,f2,k6,k4,hgz,go0,f1,k3,hrow,hrl,hag,Int.toNat_natCast,Nat.mul_one,Nat.zero_add,l3b,l1'];exact ⟨_,none,rfl,bS (S:=⟨n0,n0,o0⟩) (Nat.le_refl n0) (eZ fun x hx=>nomatch hx)⟩
      | false=>
        rw [k5]at l1' l3b;simp +contextual +decide (maxSteps:=1000000) only [↓ wP,wQ,tf,Nat.reduceAdd,wS,reduceCtorEq,g0,f0,l2,gg0,f2,k6,k4,hgz,go0,f1,k3,hrow,hrl,hag,Int.toNat_natCast,Nat.mul_one,Nat.zero_add,l3b,l1'];exact ⟨_,none,rfl,bS (S:=⟨n0,n0,o0⟩) (Nat.le_refl n0) pI⟩
  | true=>
    cases b' with
    | true=>
      simp +contextual +decide (maxSteps:=1000000) only [↓ wP,wQ,wS,reduceCtorEq,l2];exact ⟨_,none,rfl,bS (S:=⟨n0,n0,o0⟩) (Nat.le_refl n0) (eZ fun x hx=>nomatch hx)⟩
    | false=>
      have l1':=l1 (eC x' x)
      cases k5:eC x' x with
      | true=>
        rw [k5]at l1' l3';simp +contextual +decide (maxSteps:=1000000) only [↓ wP,wQ,tf,Nat.reduceAdd,wS,reduceCtorEq,g0,f0,l2,gw0,f3,k7,k4,hroww,hrlw,hagw,go0,f1,k3,hrow,hrl,hag,Int.toNat_natCast,Nat.zero_add,l3',l1'];exact ⟨_,none,rfl,bS (S:=⟨n0,n0,o0⟩) (Nat.le_refl n0) (eZ fun x hx=>nomatch hx)⟩
      | false=>
        rw [k5]at l1' l3';simp +contextual +decide (maxSteps:=1000000) only [↓ wP,wQ,tf,Nat.reduceAdd,wS,reduceCtorEq,g0,f0,l2,gw0,f3,k7,k4,hroww,hrlw,hagw,go0,f1,k3,hrow,hrl,hag,Int.toNat_natCast,Nat.zero_add,l3',l1'];exact ⟨rfl,rfl,_,none,rfl,bS (S:=⟨n0,n0,o0⟩) (Nat.le_refl n0) pI⟩
end
end
end Go.Proofs.YtkocnhkbgcjpbaaGreat
/-
 The abstract machine: a range over a function that looks at the store.
-/
namespace Go.Abs
noncomputable section
section
variable {P:Program} {O:bZ} {H:dO}
def aBk (P:Program) (O:bZ) (fv:AV) (xs:List (List AV)) (G:Sto->Prop):Prop:=∀ (l:Nat) (J:Nat->Sto->Prop) (D:Sto->Prop) (X:AV->Sto->Prop) (s:Sto),l<s.n->(∀ i s,J i s->G s)->
 (∀ i s s',Sim s s'->J i s->J i s')->(∀ s s',Sim s s'->D s->D s')->(∀ v s s',Sim s s'->X v s->X v s')->J 0 s->
 (∀ i x,xs[i]?=some x->∀ s,l<s.n->J i s->Wcall P O (.func (.yield l) [] []) x s (rK l J D X i s))->
 Wcall P O fv [.func (.yield l) [] []] s (aLc xs.length J D X s)
theorem LF {xs:List (List AV)} {f:Operand} {ps:Array Tmp} {a b:Code} {nt:Nat} {fn:FuncId} {t:Tr AV} {ds:List ADef} {s:Sto} {r:ARec} {Q:Ex->Env->Prop} (J:Nat->Sto->Prop) (E:Code->Sto->Prop) (X:AV->Sto->Prop)
 (G:Sto->Prop) (hI:aBk P O ((Env.mk nt none fn t ds s r).eval f) xs G) (hG:∀ i u,J i u->G u)
 (hJ:∀ i u u',SimX (s.n+1) u u'->J i u->J i u') (hE:∀ c u u',SimX (s.n+1) u u'->E c u->E c u') (hX:∀ v u u',Sim u u'->X v u->X v u')
 (hc:∀ c u,E c u->c=.ret∨∃ id,c=.exit id)
 (h0:J 0 s)
 (hr:∀ i x,xs[i]?=some x->∀ u:Sto,s.n+1<u.n->u.get s.n=some (.defs (some []))->u.get (s.n+1)=some (.loop .ready none fn nt t ps.toList a b s.n)->J i u->
   ∃ t',tP nt t ps.toList x=some t'/\Wk P O H a ⟨nt,some (s.n+1),fn,t',[],⟨u.n,u.n,u.o⟩,.no⟩
     (oX P O H (s.n+1) (fun st p=>.loop st p fn nt t ps.toList a b s.n) b (oW P (s.n+1) (fun st p=>.loop st p fn nt t ps.toList a b s.n) (fun i u=>J i u/\u.get s.n=some (.defs (some []))) (fun c u=>E c u/\u.get s.n=some (.defs (some []))) X i)))
 (hend:∀ u:Sto,s.n+1<u.n->u.get s.n=some (.defs (some []))->J xs.length u->Q .normal ⟨nt,none,fn,t,.collected s.n::ds,u,r⟩)
 (hret:∀ u:Sto,s.n+1<u.n->u.get s.n=some (.defs (some []))->E .ret u->Q .ret ⟨nt,none,fn,t,.collected s.n::ds,u,r⟩)
 (hexit:∀ id (u:Sto),s.n+1<u.n->u.get s.n=some (.defs (some []))->E (.exit id) u->Q (.exit id) ⟨nt,none,fn,t,.collected s.n::ds,u,r⟩)
 (hpan:∀ v (u:Sto),X v u->Q (.panic v) ⟨nt,none,fn,t,.collected s.n::ds,u,r⟩):
 Wk P O H (.rangeFunc f ps a b) ⟨nt,none,fn,t,ds,s,r⟩ Q:=by
 let lo:LoopState->Option Code->AObj:=fun st p=>.loop st p fn nt t ps.toList a b s.n
 let s1:=s.push (.defs (some []))
 let s2:=s1.push (lo .ready none)
 let J':Nat->Sto->Prop:=fun i u=>u.get s.n=some (.defs (some []))/\u.get (s.n+1)=some (lo .ready none)/\J i u
 let D':Sto->Prop:=fun u=>u.get s.n=some (.defs (some []))/\∃ c,u.get (s.n+1)=some (lo .done (some c))/\E c u
 have hlow:∀ (u:Sto) k,SimX (s.n+1) u {u with low:=k}:=fun u k=>(Sim.low u k).x
 have e0:s2.get s.n=some (.defs (some [])):=by
  rw [Sto.get_push_lt _ _ (Nat.lt_succ_self _)];exact Sto.get_push_same _ _
 have e1:s2.get (s.n+1)=some (lo .ready none):=Sto.get_push_same s1 _
 obtain ⟨n,res,rr,hcall,hK⟩:=hI (s.n+1) J' D' X s2 (Nat.lt_succ_self _) (fun i u hk=>hG i u hk.2.2) (fun i u u' hs ⟨k1,k2,k3⟩=>⟨hs.get k1,hs.get k2,hJ _ _ _ hs.x k3⟩)
  (fun u u' hs ⟨k1,c,k2,k3⟩=>⟨hs.get k1,c,hs.get k2,hE _ _ _ hs.x k3⟩) hX
  ⟨e0,e1,hJ 0 s s2 ((Sim.push _ _).trans (Sim.push _ _)).x h0⟩
  (fun i x hx u hu ⟨k1,k2,k3⟩=>by
    obtain ⟨t',ht,hw⟩:=hr i x hx u hu k1 k2 k3;refine AH (H:=H) (J:=fun i u=>J i u/\u.get s.n=some (.defs (some []))) (E:=fun c u=>E c u/\u.get s.n=some (.defs (some []))) k2 ht ?_ ?_ ?_ hw
    ·rintro e he k ⟨q2,q1⟩
     exact ⟨(((SimX.put e (s.n+1) _).trans (hlow _ k)).get q1 (by omega)),(Sim.low _ k).get (Sto.get_put_same _ _ he),hJ _ _ _ ((SimX.put e (s.n+1) _).trans (hlow _ k)) q2⟩
    ·rintro e c he k ⟨q1,q2⟩
     exact ⟨(((SimX.put e (s.n+1) _).trans (hlow _ k)).get q2 (by omega)),c,(Sim.low _ k).get (Sto.get_put_same _ _ he),hE _ _ _ ((SimX.put e (s.n+1) _).trans (hlow _ k)) q1⟩
    ·exact fun e v k hx=>hX _ _ _ (Sim.low _ k) hx)
 show W P O (.rangeFunc f ps a b) ⟨nt,none,fn,t,ds,s,r⟩ Q
 have hd:∀ x,(match res with
  | .ret _ so=>dE ⟨nt,none,fn,t,ds,s,r⟩ (.collected s.n::ds) (s.n+1) (match so with | some s=>s | none=>s2)
  | .pan v so=>some (.panic v,{(Env.mk nt none fn t ds s r) with s:=(match so with | some s=>s | none=>s2),ds:=.collected s.n::ds}))=some x->bC P (aO P O n) n (.rangeFunc f ps a b) ⟨nt,none,fn,t,ds,s,r⟩=some x:=by
  intro x hx
  show (match aO P O n ((Env.mk nt none fn t ds s r).eval f) [.func (.yield (s.n+1)) [] []] s2 .no with
   | some (.ret _ so,_)=>dE ⟨nt,none,fn,t,ds,s,r⟩ (.collected s.n::ds) (s.n+1) (match so with | some s=>s | none=>s2)
   | some (.pan v so,_)=>some (.panic v,{(Env.mk nt none fn t ds s r) with s:=(match so with | some s=>s | none=>s2),ds:=.collected s.n::ds})
   | none=>none)=some x
  rw [hcall];cases res<;>exact hx
 have hso:∀ so:Option Sto,(match so with | some s=>s | none=>s2)=so.getD s2:=fun so=>by cases so<;>rfl
 cases res with
 | ret v so=>
   simp only [hso]at hd
   rcases hK with ⟨k1,k2,k3⟩ | ⟨k1,c,k2,k3⟩
   ·refine ⟨n,.normal,_,hd _ (by simp only [dE,k2,lo]),hend ((so.getD s2).put (s.n+1) (lo .exhausted none)) (show s.n+1<(so.getD s2).n from Sto.get_lt k2) ((SimX.put _ (s.n+1) _).get k1 (by omega)) (hJ _ _ _ (SimX.put _ (s.n+1) _) k3)⟩
   ·rcases hc c _ k3 with rfl | ⟨id,rfl⟩
    ·exact ⟨n,.ret,_,hd _ (by simp only [dE,k2,lo]),hret ((so.getD s2).put (s.n+1) (lo .exhausted (some .ret))) (show s.n+1<(so.getD s2).n from Sto.get_lt k2) ((SimX.put _ (s.n+1) _).get k1 (by omega)) (hE _ _ _ (SimX.put _ (s.n+1) _) k3)⟩
    ·exact ⟨n,.exit id,_,hd _ (by simp only [dE,k2,lo]),hexit id ((so.getD s2).put (s.n+1) (lo .exhausted (some (.exit id)))) (show s.n+1<(so.getD s2).n from Sto.get_lt k2) ((SimX.put _ (s.n+1) _).get k1 (by omega)) (hE _ _ _ (SimX.put _ (s.n+1) _) k3)⟩
 | pan v so=>
   simp only [hso]at hd;exact ⟨n,.panic v,_,hd _ rfl,hpan v _ hK⟩
end
end
end Go.Abs
/-
 Points: which objects are missing.
-/
namespace Go.Proofs.YtkocnhkbgcjpbaaGreat
open Go.Abs Go Go.Abs.TryzF
noncomputable section
set_option maxRecDepth 10000
def mU (xd:List AV) (m:Nat):List (List AV):=((List.range m).filter fun i=>!pG xd i).map fun i:Nat=>[.int .i64 (i:Nat)]
theorem yW {xd:List AV} {m:Nat}:mU xd (m+1)=mU xd m++(if pG xd m=true then [] else [[.int .i64 (m:Nat)]]):=by
 simp only [mU,List.range_succ,List.filter_append,List.map_append,List.filter_cons,List.filter_nil];cases pG xd m<;>simp
theorem TZ {xd:List AV} {m:Nat} (h:pG xd m=false):∀ k,m<k->(mU xd k)[(mU xd m).length]?=some [.int .i64 (m:Nat)]
 | 0,hk=>by omega
 | k+1,hk=>by
   rw [yW];by_cases he:m=k
   ·subst he;rw [h];simp
   ·have ih:=TZ h k (by omega)
    rw [List.getElem?_append_left (List.getElem?_eq_some_iff.1 ih).1];exact ih
abbrev LG (bx:Nat):AV:=.func (.func 66) [] [.ptr bx 0 0]
section
variable {os ts us is no ns fs mm cs os' ts' us' is' no' d g:AV}
def GSt (bx id:Nat) (c:List AV) (lo hi:Nat) (d:AV) (xd:List AV) (s:Sto):Prop:=s.get bx=some (aS 0 [.ptr id 0 0])/\s.get id=some (aS 0 c)/\StN lo hi s d xd
set_option maxHeartbeats 4000000 in
theorem wU {xd:List AV} {lo hi:Nat} (hdl:xd.length<=1000) (hdt:∀ x∈xd,oD x) {bx id:Nat} {O:bZ} (h66:∀ a σ,O 66 a σ=none):
 aBk Tryz.prog O (LG bx) (mU xd xd.length) (GSt bx id (oR os ts us is no ns fs mm cs os' ts' us' is' no' d g) lo hi d xd):=by
 intro l J D X σ hl hG hJs hDs hXs hJ0 hr;refine tY (h66 _ _) (by kernel_rfl) Tryz.func66 rfl (Wk.sound (H:=aH) ?_);show Wk _ _ _ _ ⟨24,none,66,Tr.leaf.lay 0 [.func (.yield l) [] [],.ptr bx 0 0],[],⟨σ.n,σ.n,σ.o⟩,.no⟩ _;obtain ⟨q1,q2,q3⟩:=hG 0 σ hJ0
 have hlen:=fun {s:Sto} {x:Option ORes}=>q3.len (s':=s) (d:=x)
 have hcell:=q3.cell;clear q3;obtain ⟨n0,low0,o0⟩:=σ;have b1:bx<n0:=Sto.get_lt q1;have b2:id<n0:=Sto.get_lt q2;rw [Sto.get_mk b1]at q1;rw [Sto.get_mk b2]at q2;unfold oR at q2;have f1:=dC b1;have f2:=dC b2;simp +contextual +decide (maxSteps:=1000000) only [↓ wP,wQ,tf,Nat.reduceAdd,q1,q2,f1,f2,hlen]
 refine aP (fun i e=>∃ t u,e=⟨24,none,66,t,[],u,.no⟩/\t.val 0=.func (.yield l) [] []/\t.val 8=d/\t.val 9=.int .i64 (xd.length:Nat)/\t.val 10=.int .i64 (i:Nat)/\i<=xd.length/\l<u.n/\J (mU xd i).length u/\((mU xd i).length=0∨u.low<=l)) (fun i=>xd.length-i) 0
  ⟨_,_,rfl,by simp +decide only [↓ aB,cC,bE],by simp +decide only [↓ aB],by simp +decide only [↓ aB],by simp +decide only [↓ aB];rfl,Nat.zero_le _,hl,hJs _ _ _ (Sim.low ⟨n0,low0,o0⟩ n0) hJ0,.inl rfl⟩ ?_
 clear q1 q2 f1 f2;rintro i _ ⟨t,⟨n,low,o⟩,rfl,h0,h8,h9,h10,hi,hln,hJ,hlow⟩
 rcases Nat.lt_or_ge i xd.length with hlt | hge
 ·obtain ⟨y,hDy,hm,hgy,_,hix,hw,hc⟩:=aZ (fun x h=>tu_bool.len h) hdt (show xd.length<=9223372036854775807 by omega) hlt
  obtain ⟨idd,gd,cd,rfl,gd0,_,_,fd0⟩:=(hG _ _ hJ).2.2.at_ hlt;rw [cV fun x hx=>(tu_bool x (hdt x hx)).2]at gd0;have fd0':idd<n:=fd0;rw [Sto.get_mk fd0']at gd0;have f1:=dC fd0';have k4:(0<=((i:Nat):Int))=True:=eq_true (by omega)
  have e1:pG xd i=rP y:=by simp [pG,List.getD_eq_getElem?_getD,hgy]
  obtain ⟨b,rfl⟩:=hDy
  cases b with
  | true=>
    have hms:mU xd (i+1)=mU xd i:=by rw [yW,e1];simp [rP]
    simp +contextual +decide (maxSteps:=1000000) only [↓ wP,wQ,tf,wS,h8,h9,h10,gd0,f1,k4,hc,hgy,Int.toNat_natCast,Nat.mul_one,Nat.zero_add,hw];exact ⟨i+1,by show _-_<_-_;omega,_,_,rfl,by simp +decide only [↓ aB,h0],by simp +decide only [↓ aB,h8],by simp +decide only [↓ aB,h9],by simp +decide only [↓ aB],hlt,hln,by rw [hms];exact hJ,by rw [hms];exact hlow⟩
  | false=>
    have hms:mU xd (i+1)=mU xd i++[[.int .i64 (i:Nat)]]:=by rw [yW,e1];simp [rP]
    have hml:(mU xd (i+1)).length=(mU xd i).length+1:=by rw [hms,List.length_append];rfl
    simp +contextual +decide (maxSteps:=1000000) only [↓ wP,wQ,tf,wS,h0,h8,h9,h10,gd0,f1,k4,hc,hgy,Int.toNat_natCast,Nat.mul_one,Nat.zero_add];have hcall:=hr (mU xd i).length [.int .i64 (i:Nat)] (TZ (by rw [e1];rfl) xd.length hlt) ⟨n,low,o⟩ hln hJ
    refine hcall.mono fun res hk=>?_
    have hk':rK l J D X (mU xd i).length ⟨n,low,o⟩ res:=hk;clear hk hcall
    cases res with
    | pan v so=>
      rw [DP];have k:(so.getD ⟨n,low,o⟩).low<=l/\X v (so.getD ⟨n,low,o⟩):=hk';generalize so.getD ⟨n,low,o⟩=u at *;simp +contextual +decide (maxSteps:=1000000) only [↓ wP,wQ];exact aDv rfl (nJ _ _ _ (X v) (hXs v) k.2 (.inl (Nat.lt_of_le_of_lt k.1 hl)))
    | ret v so=>
      rw [tX]
      have k:(v=.bool true/\(so.getD ⟨n,low,o⟩).low<=l/\l<(so.getD ⟨n,low,o⟩).n/\J ((mU xd i).length+1) (so.getD ⟨n,low,o⟩))∨(v=.bool false/\(so.getD ⟨n,low,o⟩).low<=l/\D (so.getD ⟨n,low,o⟩)):=by
       cases v with
       | bool b=>cases b with
         | true=>exact .inl ⟨rfl,hk'⟩
         | false=>exact .inr ⟨rfl,hk'⟩
       | _=>exact hk'.elim
      generalize so.getD ⟨n,low,o⟩=u at *
      rcases k with ⟨rfl,k1,k0,k2⟩ | ⟨rfl,k1,k2⟩
      ·simp +contextual +decide (maxSteps:=1000000) only [↓ wP,wQ,wS,h10,hw]
       exact ⟨i+1,by show _-_<_-_;omega,_,_,rfl,by simp +decide only [↓ aB,h0],by simp +decide only [↓ aB,h8],by simp +decide only [↓ aB,h9],by simp +decide only [↓ aB],hlt,k0,by rw [hml];exact k2,.inr k1⟩
      ·simp +contextual +decide (maxSteps:=1000000) only [↓ wP,wQ,wS]
       exact kC rfl (vs:=[]) rfl (.inr (nJ _ _ _ D hDs k2 (.inl (Nat.lt_of_le_of_lt k1 hl))))
 ·obtain rfl:i=xd.length:=Nat.le_antisymm hi hge
  simp +contextual +decide (maxSteps:=1000000) only [↓ wP,wQ,wS,h9,h10,bB];refine kC rfl (vs:=[]) rfl (.inl (nJ _ _ _ (J (mU xd xd.length).length) (hJs _) hJ ?_))
  rcases hlow with h | h
  ·refine .inr ?_
   rw [h];exact hJ0
  ·exact .inl (Nat.lt_of_le_of_lt h hl)
end
theorem LH (id:Nat) (s:Sto):∃ S v,(v=LG s.n/\S.n=s.n+1/\s.n<=S.low/\Sim s S/\S.get s.n=some (aS 0 [.ptr id 0 0]))/\bG Tryz.prog 30 [.ptr id 0 0] s (.ret v (some {S with low:=Nat.min s.low S.low})):=by
 refine gW (L:=[]) aE aH (by kernel_rfl) Tryz.func30 Tryz.ntmps30 Tryz.results30 rfl rfl ?_;obtain ⟨n0,low0,o0⟩:=s;simp +contextual +decide (maxSteps:=1000000) only [↓ wP,wQ,wS];refine ⟨⟨Nat.le_succ _,fun i hi=>?_⟩,?_⟩
 ·have hi':i<n0:=hi
  rw [Sto.get_mk (show i<n0+1 by omega),Sto.get_mk hi',Tr.get_set_ne _ _ (by omega)]
 ·rw [Sto.get_mk (show n0<n0+1 by omega)];exact Tr.get_set_same _ _ _
end
end Go.Proofs.YtkocnhkbgcjpbaaGreat
