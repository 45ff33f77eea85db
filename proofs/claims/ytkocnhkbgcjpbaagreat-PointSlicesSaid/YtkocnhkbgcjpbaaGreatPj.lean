/-
  The abstract machine: hints with a number that is not known; copies of worlds whose objects may be turned.
-/
import Derived.Test.YtkocnhkbgcjpbaaGreatPf
set_option linter.unusedVariables false
set_option linter.unusedSimpArgs false
namespace Go.Abs
noncomputable section
def cQ (K:Nat):Nat:=2000+K
theorem WK {K i t:Nat} {l:List Nat} (hi:i<2000):(1000::cQ K::t::l).elem i=(1000::2000::t::l).elem i:=by
 have h1:(i==cQ K)=false:=by simp [cQ];omega
 have h2:(i==2000)=false:=by simp;omega
 simp only [List.elem_cons,h1,h2]
theorem jD {qs:List Nat} {K i t:Nat} {l:List Nat} {op:Op} (hi:i<2000):cX qs (1000::cQ K::t::l) i op=cX qs (1000::2000::t::l) i op:=by
 unfold cX;rw [WK hi]
theorem zV {qs az:List Nat} {K t:Nat} {l:List Nat}:∀ (ops:List Oper) (i:Nat),i+ops.length<=2000->lX qs (1000::cQ K::t::l) az ops i=lX qs (1000::2000::t::l) az ops i
 | [],_,_=>rfl
 | o::rest,i,h=>by
   rw [List.length_cons]at h;rw [lX,lX,zV rest (i+1) (by omega),jD (by omega)]
   congr 1
   rw [Bool.eq_iff_iff,List.all_eq_true,List.all_eq_true]
   have hj:∀ q∈rest.zipIdx (i+1),q.2<2000:=fun q hq=>by
    have:=List.snd_lt_of_mem_zipIdx hq;omega
   exact ⟨fun hh q hq=>by have:=hh q hq;rw [jD (hj q hq)]at this;exact this,fun hh q hq=>by have:=hh q hq;rw [jD (hj q hq)];exact this⟩
theorem wV {qs:List Nat} {K t:Nat} {l:List Nat} {ops:List Oper} (h:Nat.ble ops.length 2000=true):YG qs (1000::cQ K::t::l) ops=YG qs (1000::2000::t::l) ops:=by
 rw [YG,YG,zV ops 0 (by have:=Nat.le_of_ble_eq_true h;omega)]
theorem pH {n K:Nat}:uQ n (cQ K-2000)=uQ n K:=by rw [cQ,Nat.add_sub_cancel_left]
end
end Go.Abs
namespace Go.Proofs.YtkocnhkbgcjpbaaGreat
open Go.Abs Go Go.Abs.TryzF
noncomputable section
set_option maxRecDepth 10000
def aKq (args:List AV) (s:Sto) (res:CRes):Prop:=∃ a S v,args=[a]/\res=.ret v (some S)/\bG Tryz.prog 93 args s res/\Nat.min s.low s.n<=S.low/\Sim s S/\AccM 4 s.n v S.n S.o ((a.els.map cD).map AV.cells)
theorem PR {a:AV} (ha:TSl nG a) (hlen:a.els.length<=1000) (hsm:∀ o∈a.els,yP o) (s:Sto):∃ res,aKq [a] s res:=by
 obtain ⟨S,v,⟨h1,h2,h3⟩,h4⟩:=LP ha hlen hsm s;refine ⟨_,a,_,v,rfl,rfl,h4,?_,⟨h2.1,fun id hid=>h2.2 id hid⟩,h3⟩;exact Nat.le_min.2 ⟨Nat.min_le_left _ _,Nat.le_trans (Nat.min_le_right _ _) h1⟩
abbrev uT:List kS:=[jG 93 aKq,ent 94 mE,ent 95 qJ]
theorem aBl:∀ x∈uT,cH Tryz.prog x:=elist_cons (eS fun _ _ _ h=>by obtain ⟨_,_,_,_,_,h,_⟩:=h;exact h) (elist_cons cloneI_ok.ent (elist_cons cloneO_ok.ent aE))
set_option maxHeartbeats 4000000 in
theorem aBm {os ts us is no:AV} (hw:WG os ts us is no) (hsm:SmW (wg os ts us is no)) (s:Sto):∃ S v,(s.n<=S.low/\Sim s S/\∃ vo,v=.agg [vo,aJ ts,aJ us,aJ is,no]/\AccM 4 s.n vo S.n S.o ((os.els.map cD).map AV.cells))/\bG Tryz.prog 55 [wg os ts us is no] s (.ret v (some {S with low:=Nat.min s.low S.low})):=by
 obtain ⟨⟨s1,s2⟩,s3,s4,s5⟩:=hsm;obtain ⟨c1,c2,c3,c4,c5⟩:=hw.cells;obtain ⟨h1,h2,h3,h4,h5⟩:=hw
 have e2:∀ S,aV uT 94 [ts] S=some (.ret (aJ ts) none):=fun S=>by
  rw [uT,bL (by decide)];have:mE [ts]=some (aJ ts):=bT ⟨h2,s3⟩;simp [aV,ent,this]<;>rfl
 have e3:∀ S,aV uT 95 [us] S=some (.ret (aJ us) none):=fun S=>by
  rw [uT,bL (by decide)];have:qJ [us]=some (aJ us):=bT ⟨h3,s4⟩;simp [aV,ent,this]<;>rfl
 have e4:∀ S,aV uT 94 [is] S=some (.ret (aJ is) none):=fun S=>by
  rw [uT,bL (by decide)];have:mE [is]=some (aJ is):=bT ⟨h4,s5⟩;simp [aV,ent,this]<;>rfl
 have u0:=fun {m:Nat}=>(iG _ h1).1.mono (Nat.zero_le m)
 have k2:=(aM _ (bF h2))
 have k3:=(cJ _ (bF h3))
 have k4:=(aM _ (bF h4))
 have u2:=fun {m:Nat}=>k2.1.mono (Nat.zero_le m)
 have u3:=fun {m:Nat}=>k3.1.mono (Nat.zero_le m)
 have u4:=fun {m:Nat}=>k4.1.mono (Nat.zero_le m)
 have u5:=fun {m:Nat}=>(tu_int _ h5).1.mono (Nat.zero_le m)
 obtain ⟨n0,low0,o0⟩:=s;refine gW (L:=uT) aBl (fun _=>([5,8,11],[1000,cQ (n0+1),15])) (by kernel_rfl) Tryz.func55 Tryz.ntmps55 Tryz.results55 rfl rfl ?_;obtain ⟨_,⟨_,⟨n1,low1,o1⟩,vo,ea,rfl,_,hl,⟨hs1,hs2⟩,hacc⟩,he⟩:=sI (f:=93) (L:=[ent 94 mE,ent 95 qJ]) (PR h1 s1 s2 ⟨n0+1+1,n0,(o0.set n0 (aS 0 [os,ts,us,is,no])).set (n0+1) (aS 0 [.nils,.nils,.nils,.nils,.int .i64 0])⟩);cases ea;unfold wg;have he':aV uT 93 [os] ⟨n0+1+1,n0,(o0.set n0 (aS 0 [os,ts,us,is,no])).set (n0+1) (aS 0 [.nils,.nils,.nils,.nils,.int .i64 0])⟩=_:=he;clear he;have hs1':n0+1+1<=n1:=hs1
 have gg0:o1.get n0=some (aS 0 [os,ts,us,is,no]):=by
  have:=hs2 n0 (show n0<n0+1+1 by omega);rw [Sto.get_mk (show n0<n1 by omega),Sto.get_mk (show n0<n0+1+1 by omega)]at this
  rw [this];exact by simp +decide only [↓ aB,bE,ne_eq,jR]
 have gg1:o1.get (n0+1)=some (aS 0 [.nils,.nils,.nils,.nils,.int .i64 0]):=by
  have:=hs2 (n0+1) (show n0+1<n0+1+1 by omega);rw [Sto.get_mk (show n0+1<n1 by omega),Sto.get_mk (show n0+1<n0+1+1 by omega)]at this
  rw [this];exact by simp +decide only [↓ aB]
 have hkp:qR (uQ (n0+1+1) (n0+1)) ⟨n0+1+1,n0,(o0.set n0 (aS 0 [os,ts,us,is,no])).set (n0+1) (aS 0 [.nils,.nils,.nils,.nils,.int .i64 0])⟩ ⟨n1,low1,o1⟩:=fun id hid=>hs2 id (Nat.lt_of_lt_of_le hid (Nat.min_le_left _ _))
 have f0:n0<n1/\n0+1<n1:=by omega
 have hvc:vo.isCell=true:=by rcases hacc with ⟨_,rfl⟩ | ⟨_,id,g,rfl,_⟩<;>rfl
 have huv:UnderE n1 vo:=by
  rcases hacc with ⟨_,rfl⟩ | ⟨_,id,g,rfl,_,h,_⟩
  ·exact ⟨1,rfl⟩
  ·exact ⟨1,by simpa [AV.under] using h⟩
 generalize hLL:uT=LL at *;simp +contextual +decide (maxSteps:=1000000) only [↓ wP,wQ,tf,Nat.reduceAdd,wS,c1,c2,c3,c4,c5,e2,e3,e4,he',u0,u2,u3,u4,u5,k2.2,k3.2,k4.2,pH,wV,jD,hs1',gg0,gg1,hkp,f0,hvc,huv,jR,bA,Option.bind_some];have hl':Nat.min n0 (n0+1+1)<=low1:=hl
 have hl2:n0<=low1:=by
  have:Nat.min n0 (n0+1+1)=n0:=Nat.min_eq_left (by omega);omega
 refine ⟨Nat.le_min.2 ⟨by omega,hl2⟩,⟨by show n0<=n1;omega,fun id hid=>?_⟩,vo,rfl,?_⟩
 ·have hid':id<n0:=hid
  have:=hs2 id (show id<n0+1+1 by omega);rw [Sto.get_mk (show id<n1 by omega),Sto.get_mk (show id<n0+1+1 by omega)]at this;rw [Sto.get_mk (show id<n1 by omega),Sto.get_mk hid',Tr.get_set_ne _ _ (by omega),this,Tr.get_set_ne _ _ (by omega),Tr.get_set_ne _ _ (by omega)]
 ·rcases hacc with ⟨q1,rfl⟩ | ⟨q1,id,g,rfl,q2,q3,q4⟩
  ·exact .inl ⟨q1,rfl⟩
  ·have q4':n0+1+1<=id:=q4
   exact .inr ⟨q1,id,g,rfl,by rw [Tr.get_set_ne _ _ (by omega)];exact q2,q3,by omega⟩
def iC:AV:=.iface 119 (.agg [])
def LI (args:List AV) (_s:Sto) (res:CRes):Prop:=∃ b:Bool,args=[.bool b]/\res=(if b=true then .ret (.tuple []) none else .pan iC none)
theorem UA:ifK Tryz.prog 119=true:=by kernel_rfl
theorem pI {n:Nat}:Und n iC:=(kE (gM (fun x hx=>nomatch hx)):UnderE n iC).und
theorem CQ (args:List AV) (s:Sto) (res:CRes) (h:LI args s res):bG Tryz.prog 63 args s res:=by
 obtain ⟨b,rfl,rfl⟩:=h;refine DN (L:=[]) aE aH (by kernel_rfl) Tryz.func63 Tryz.ntmps63 Tryz.results63 rfl rfl ?_
 cases b with
 | true=>
   simp +contextual +decide (maxSteps:=1000000) only [↓ wP,wQ,wS,reduceCtorEq];exact ⟨_,_,rfl,bS (Nat.le_refl _) (eZ fun x hx=>nomatch hx)⟩
 | false=>
   simp +contextual +decide (maxSteps:=1000000) only [↓ wP,wQ,tf,wS,reduceCtorEq,MP,BR UA,XK,aMx];refine ⟨iC,none,rfl,?_⟩;exact bS (S:=⟨s.n,s.n,s.o⟩) (Nat.le_refl s.n) pI
theorem LJ {b:Bool} {s:Sto} {L:List kS}:aV (jG 63 LI::L) 63 [.bool b] s=some (if b=true then .ret (.tuple []) none else .pan iC none):=
 entS_same ⟨b,rfl,rfl⟩ fun res' ⟨b',e,hr⟩=>by cases e;exact hr
end
end Go.Proofs.YtkocnhkbgcjpbaaGreat
/-
 Points: rows that lie in the store.
-/
namespace Go.Abs
noncomputable section
def StN (lo hi:Nat) (s:Sto) (a:AV) (xs:List AV):Prop:=(a=.nils/\xs=[])∨∃ id g c,a=.sl id g 0 xs.length c/\s.get id=some (aS g (xs.map AV.cells).flatten)/\lo<=id/\id<hi
section
variable {lo hi:Nat} {s:Sto} {a:AV} {xs:List AV}
theorem StN.len (h:StN lo hi s a xs) {s':Sto} {d:Option ORes}:AW (some 1) s' a d=some (.val (.int .i64 (xs.length:Nat))):=by
 rcases h with ⟨rfl,rfl⟩ | ⟨id,g,c,rfl,_,_⟩<;>rfl
theorem StN.cell (h:StN lo hi s a xs):a.isCell=true:=by
 rcases h with ⟨rfl,rfl⟩ | ⟨id,g,c,rfl,_,_⟩<;>rfl
theorem StN.under (h:StN lo hi s a xs):UnderE s.n a:=by
 rcases h with ⟨rfl,_⟩ | ⟨id,g,c,rfl,h,_⟩
 ·exact ⟨1,rfl⟩
 ·exact ⟨1,by simpa [AV.under] using Sto.get_lt h⟩
theorem StN.le {lo' hi':Nat} (h:StN lo hi s a xs) (hl:lo'<=lo) (hh:hi<=hi'):StN lo' hi' s a xs:=by
 rcases h with h | ⟨id,g,c,h1,h2,h3⟩
 ·exact .inl h
 ·exact .inr ⟨id,g,c,h1,h2,Nat.le_trans hl h3.1,Nat.lt_of_lt_of_le h3.2 hh⟩
theorem StN.sim (h:StN lo hi s a xs) {s':Sto} (hs:Sim s s'):StN lo hi s' a xs:=by
 rcases h with h | ⟨id,g,c,h1,h2,h3⟩
 ·exact .inl h
 ·exact .inr ⟨id,g,c,h1,hs.get h2,h3⟩
theorem StN.keep (h:StN lo hi s a xs) {s':Sto} (hs:∀ id,id<s.n->lo<=id->id<hi->s'.get id=s.get id):StN lo hi s' a xs:=by
 rcases h with h | ⟨id,g,c,h1,h2,h3⟩
 ·exact .inl h
 ·exact .inr ⟨id,g,c,h1,by rw [hs id (Sto.get_lt h2) h3.1 h3.2];exact h2,h3⟩
theorem StN.acc {k n low:Nat} {o:Tr AObj} (h:AccM k lo a n o (xs.map AV.cells)):StN lo n ⟨n,low,o⟩ a xs:=by
 rcases h with ⟨h1,rfl⟩ | ⟨_,id,g,rfl,h1,h2,h3⟩
 ·exact .inl ⟨rfl,List.map_eq_nil_iff.1 h1⟩
 ·exact .inr ⟨id,g,.room k,by rw [List.length_map],by rw [Sto.get_mk h2];exact h1,h3,h2⟩
theorem StN.at_ (h:StN lo hi s a xs) {i:Nat} (hil:i<xs.length):∃ id g c,a=.sl id g 0 xs.length c/\s.get id=some (aS g (xs.map AV.cells).flatten)/\lo<=id/\id<hi/\id<s.n:=by
 rcases h with ⟨_,rfl⟩ | ⟨id,g,c,h1,h2,h3⟩
 ·simp at hil
 ·exact ⟨id,g,c,h1,h2,h3.1,h3.2,Sto.get_lt h2⟩
theorem qI {k:Nat} (hk:∀ x∈xs,x.cells.length=k) {i:Nat} {x:AV} (hx:xs[i]?=some x):aW (xs.map AV.cells).flatten (i*k) k=x.cells/\i*k+k<=(xs.map AV.cells).flatten.length:=by
 induction xs generalizing i with
 | nil=>simp at hx
 | cons y l ih=>
   have hy:=hk y (List.mem_cons_self ..)
   cases i with
   | zero=>
     simp only [List.getElem?_cons_zero,Option.some.injEq]at hx;subst hx;rw [List.map_cons,List.flatten_cons,aW,Nat.zero_mul,List.drop_zero,List.take_append_of_le_length (by omega),List.take_of_length_le (by omega),List.length_append];exact ⟨rfl,by omega⟩
   | succ i=>
     simp only [List.getElem?_cons_succ]at hx;obtain ⟨h1,h2⟩:=ih (fun z hz=>hk z (List.mem_cons_of_mem _ hz)) hx;rw [List.map_cons,List.flatten_cons,aW,Nat.succ_mul,Nat.add_comm (i*k) k,<-hy,<-List.drop_drop,List.drop_left,List.length_append,hy];exact ⟨h1,by omega⟩
theorem cV (h:∀ x∈xs,x.isCell=true):(xs.map AV.cells).flatten=xs:=by rw [<-List.flatMap_def];exact LN h
theorem HN {k:Nat} (hk:∀ x∈xs,x.cells.length=k) {i:Nat} (hi:i<xs.length) {x:AV} (hx:x.cells.length=k):cE (xs.map AV.cells).flatten (i*k) x.cells=((xs.set i x).map AV.cells).flatten:=by
 induction xs generalizing i with
 | nil=>simp at hi
 | cons y l ih=>
   have hy:=hk y (List.mem_cons_self ..)
   cases i with
   | zero=>
     rw [List.set_cons_zero,List.map_cons,List.map_cons,List.flatten_cons,List.flatten_cons,cE,Nat.zero_mul,List.take_zero,List.nil_append,Nat.zero_add,hx,<-hy,List.drop_left]
   | succ i=>
     have ih':=ih (fun z hz=>hk z (List.mem_cons_of_mem _ hz)) (show i<l.length by simpa using hi);rw [List.set_cons_succ,List.map_cons,List.map_cons,List.flatten_cons,List.flatten_cons,<-ih']
     have h1:List.take (k+i*k) (y.cells++(l.map AV.cells).flatten)=y.cells++List.take (i*k) (l.map AV.cells).flatten:=by
      rw [List.take_append,List.take_of_length_le (show y.cells.length<=k+i*k by omega),show k+i*k-y.cells.length=i*k by omega]
     have h2:List.drop (k+i*k+x.cells.length) (y.cells++(l.map AV.cells).flatten)=List.drop (i*k+x.cells.length) (l.map AV.cells).flatten:=by
      rw [List.drop_append,List.drop_of_length_le (show y.cells.length<=k+i*k+x.cells.length by omega),List.nil_append,show k+i*k+x.cells.length-y.cells.length=i*k+x.cells.length by omega]
     rw [cE,cE,Nat.succ_mul,Nat.add_comm (i*k) k,h1,h2];simp only [List.append_assoc]
end
end
end Go.Abs
namespace Go.Proofs.YtkocnhkbgcjpbaaGreat
open Go.Abs Go Go.Abs.TryzF
noncomputable section
set_option maxRecDepth 10000
def aKr (a:AV) (s S:Sto) (v:AV):Prop:=s.n<=S.low/\Sim s S/\StN s.n S.n S v a.els
set_option maxHeartbeats 2000000 in
theorem PT {a:AV} (ha:qL a) (hlen:a.els.length<=1000) (s:Sto):∃ S v,aKr a s S v/\bG Tryz.prog 64 [a] s (.ret v (some {S with low:=Nat.min s.low S.low})):=by
 obtain ⟨xs,hs,hxs⟩:=ha;unfold aKr;rw [hs.els]at hlen ⊢;refine gW (L:=[]) aE aH (by kernel_rfl) Tryz.func64 Tryz.ntmps64 Tryz.results64 rfl rfl ?_;obtain ⟨n0,low0,o0⟩:=s
 rcases hs.1 with ⟨rfl,rfl⟩ | ⟨c,rfl⟩
 ·simp +contextual +decide (maxSteps:=1000000) only [↓ wP,wQ,wS,aMi]
  exact ⟨⟨Nat.le_refl _,fun id hid=>rfl⟩,.inl ⟨rfl,rfl⟩⟩
 ·have hcell:∀ x∈xs,x.cells.length=1/\x.cells.all AV.isCell=true:=fun x hx=>by
   rw [dV (tu_bool x (hxs x hx)).2];exact ⟨rfl,by simp [(tu_bool x (hxs x hx)).2]⟩
  have hcl:∀ x∈xs,x.isCell=true:=fun x hx=>(tu_bool x (hxs x hx)).2
  have hy:=fun {s:Sto}=>JC (s:=s) (c:=c) hcell
  have hall:(xs.flatMap AV.cells).all AV.isCell=true:=List.all_eq_true.2 fun y hy=>by
   obtain ⟨x,hx,hy⟩:=List.mem_flatMap.1 hy;exact List.all_eq_true.1 (hcell x hx).2 y hy
  have hsim:∀ {low:Nat} {x y:AObj},Sim ⟨n0,low0,o0⟩ ⟨n0+1+1,low,(o0.set n0 x).set (n0+1) y⟩:=fun {low x y}=>⟨show n0<=n0+1+1 by omega,fun id hid=>by
   have hid':id<n0:=hid
   rw [Sto.get_mk (show id<n0+1+1 by omega),Sto.get_mk hid',Tr.get_set_ne _ _ (by omega),Tr.get_set_ne _ _ (by omega)]⟩
  have hsim1:∀ {low:Nat} {x y:AObj},Sim ⟨n0,low0,o0⟩ ⟨n0+1,low,(o0.set n0 x).set n0 y⟩:=fun {low x y}=>⟨show n0<=n0+1 by omega,fun id hid=>by
   have hid':id<n0:=hid
   rw [Sto.get_mk (show id<n0+1 by omega),Sto.get_mk hid',Tr.get_set_ne _ _ (by omega),Tr.get_set_ne _ _ (by omega)]⟩
  by_cases h0:xs.length=0
  ·have:xs=[]:=List.length_eq_zero_iff.1 h0
   subst this;have hap:=vE (s:=⟨n0+1,n0,o0.set n0 (aS 0 [])⟩) (k:=1) (by_:=1) (id:=n0) (by rw [Sto.get_mk (Nat.lt_succ_self n0)];exact Tr.get_set_same _ _ _);simp +contextual +decide (maxSteps:=1000000) only [↓ wP,wQ,tf,wS,aKt,hy,hap,List.flatMap_nil,jR];refine ⟨Nat.le_min.2 ⟨Nat.le_refl _,Nat.le_refl _⟩,hsim1,.inr ⟨n0,0,.is 0,rfl,?_,Nat.le_refl _,Nat.lt_succ_self _⟩⟩;rw [Sto.get_mk (Nat.lt_succ_self n0)];exact Tr.get_set_same _ _ _
  ·have hap:=yX (s:=⟨n0+1,n0,o0.set n0 (aS 0 [])⟩) (k:=1) (by_:=1) (id:=n0) (n:=xs.length) (new:=xs.flatMap AV.cells) (by rw [Sto.get_mk (Nat.lt_succ_self n0)];exact Tr.get_set_same _ _ _) h0 (by omega) hall
   simp +contextual +decide (maxSteps:=1000000) only [↓ wP,wQ,tf,wS,aKt,hy,hap,jR];refine ⟨hsim,.inr ⟨n0+1,0,.room 1,rfl,?_,Nat.le_succ _,Nat.lt_succ_self _⟩⟩;rw [Sto.get_mk (Nat.lt_succ_self _),<-List.flatMap_def];exact Tr.get_set_same _ _ _
def PU (args:List AV) (s:Sto) (res:CRes):Prop:=∃ a S v,args=[a]/\res=.ret v (some S)/\bG Tryz.prog 64 args s res/\Nat.min s.low s.n<=S.low/\Sim s S/\StN s.n S.n S v a.els
theorem LK {a:AV} (ha:qL a) (hlen:a.els.length<=1000) (s:Sto):∃ res,PU [a] s res:=by
 obtain ⟨S,v,⟨h1,h2,h3⟩,h4⟩:=PT ha hlen s;refine ⟨_,a,_,v,rfl,rfl,h4,?_,⟨h2.1,fun id hid=>h2.2 id hid⟩,h3.keep fun _ _ _ _=>rfl⟩;exact Nat.le_min.2 ⟨Nat.min_le_left _ _,Nat.le_trans (Nat.min_le_right _ _) h1⟩
set_option maxHeartbeats 4000000 in
theorem HO {a:AV} {xs:List AV} {lo hi:Nat} (s:Sto) (hs:StN lo hi s a xs) (hxs:∀ x∈xs,nG x) (hlen:xs.length<=1000) (hsm:∀ o∈xs,yP o):∃ S v,(s.n<=S.low/\Sim s S/\AccM 4 s.n v S.n S.o ((xs.map cD).map AV.cells))/\bG Tryz.prog 93 [a] s (.ret v (some {S with low:=Nat.min s.low S.low})):=by
 have hlenS:=fun {s':Sto} {d:Option ORes}=>hs.len (s':=s') (d:=d)
 have hcell:=hs.cell;refine gW (L:=[ent 67 jV]) (elist_cons copied_ok.ent aE) aH (by kernel_rfl) Tryz.func93 Tryz.ntmps93 Tryz.results93 rfl rfl ?_;obtain ⟨n0,low0,o0⟩:=s;simp +contextual +decide (maxSteps:=1000000) only [↓ wP,wQ,tf,wS,hlenS]
 refine aP (fun i e=>∃ t n low o v,e=⟨19,none,93,t,[],⟨n,low,o⟩,.no⟩/\t.val 3=v/\t.val 6=a/\t.val 7=.int .i64 (xs.length:Nat)/\t.val 8=.int .i64 (i:Nat)/\i<=xs.length/\n0<=low/\n0<=n/\(∀ id,id<n0->o.get id=o0.get id)/\AccM 4 n0 v n o (((xs.take i).map cD).map AV.cells)) (fun i=>xs.length-i) 0
  ⟨_,_,_,_,_,rfl,by simp +decide only [↓ aB],by simp +decide only [↓ aB],by simp +decide only [↓ aB],by simp +decide only [↓ aB];rfl,Nat.zero_le _,Nat.le_refl _,Nat.le_refl _,fun _ _=>rfl,.inl ⟨rfl,rfl⟩⟩ ?_
 rintro i _ ⟨t,n,low,o,v,rfl,t3,t6,t7,t8,hi,hlow,hn,hkeep,hacc⟩
 rcases Nat.lt_or_ge i xs.length with hlt | hge
 ·obtain ⟨x,hDx,hm,hg,hd,hix,hw,hc⟩:=aZ (fun x h=>tk_ob.len h) hxs (show xs.length<=9223372036854775807 by omega) hlt
  obtain ⟨ia,ga,ca,rfl,ga0,_,_,fa0⟩:=hs.at_ hlt;obtain ⟨hrow,hra⟩:=qI (fun x hx=>tk_ob.len (hxs x hx)) hg;have fa1:ia<n0:=fa0;rw [Sto.get_mk fa1]at ga0;rw [<-hkeep ia fa1]at ga0;have fa:=dC (Nat.lt_of_lt_of_le fa1 hn);have k4:(0<=((i:Nat):Int))=True:=eq_true (by omega);clear hs hlenS hcell;generalize (xs.map AV.cells).flatten=Ra at *;have he:jV [x]=some (cD x):=bT ⟨hDx,hsm x hm⟩
  have hrl:=jU tk_ob (xs:=(xs.take i).map cD) fun x hx=>by
   obtain ⟨y,hy,rfl⟩:=List.mem_map.1 hx;exact dQ (hxs y (List.mem_of_mem_take hy))
  have htk:((xs.take (i+1)).map cD).map AV.cells=((xs.take i).map cD).map AV.cells++[(cD x).cells]:=by rw [List.take_add_one,hg];simp
  obtain ⟨_,zs,hcp,hzl,hzc⟩:=tk_ob _ (dQ hDx);rw [hcp]at he htk;rw [show (AV.agg zs).cells=zs from rfl]at htk;obtain ⟨ys,rfl,hyl,hyc⟩:=(tk_ob x hDx).2;rw [show (AV.agg ys).cells=ys from rfl]at hrow
  have hz:0+4<=ys.length:=by omega
  have hz':0+4<=zs.length:=by omega
  have hsmall:(2*((((xs.take i).map cD).map AV.cells).length+1)+1024)*64<=281474976710656/\(((xs.take i).map cD).map AV.cells).length+1<4611686018427387904:=by simp;omega
  have hfl:(((xs.take i).map cD).map AV.cells).flatten.length=(((xs.take i).map cD).map AV.cells).length*4:=fN _ hrl;generalize ((xs.take i).map cD).map AV.cells=L at *
  have hlowx:∀ id,n0<=id->n0<=Nat.min id low:=fun id h=>Nat.le_min.2 ⟨h,hlow⟩
  rcases hacc with ⟨hL,rfl⟩ | ⟨hL,id,g,rfl,hid,hidn,hlo⟩
  ·simp +contextual +decide (maxSteps:=1000000) only [↓ wP,wQ,tf,Nat.reduceAdd,wS,t3,t6,t7,t8,ga0,fa,k4,hc,hrow,hra,Int.toNat_natCast,hyl,hyc,bH hyl,he,hzl,hzc,bH hzl,jR,hw,Nat.reduceMul,Nat.zero_add]
   refine ⟨i+1,by show _-_<_-_;omega,_,_,_,_,.sl (n+1+1) 0 0 1 (.room 4),rfl,by simp +decide only [↓ aB],by simp +decide only [↓ aB,t6],by simp +decide only [↓ aB,t7],by simp +decide only [↓ aB],hlt,hlowx _ hn,by omega,fun id h=>?_,?_⟩
   ·have f9:=dC (show id<n by omega)
    simp +decide only [↓ aB,f9,ne_eq];exact hkeep id h
   ·rw [htk,hL]
    refine AccM.new (g:=0) (m:=1) ?_ rfl (by simp) (by omega) (by omega);rw [show (([]:List (List AV))++[zs]).flatten=zs by simp]
    exact by simp +decide only [↓ aB]
  ·have f3:=dC hidn
   simp +contextual +decide (maxSteps:=1000000) only [↓ wP,wQ,tf,Nat.reduceAdd,wS,t3,t6,t7,t8,ga0,fa,k4,hc,hrow,hra,Int.toNat_natCast,hyl,hyc,bH hyl,he,hzl,hzc,bH hzl,jR,f3,hid,hsmall,hfl,hw,Nat.reduceMul,Nat.zero_add];refine ⟨i+1,by show _-_<_-_;omega,_,_,_,_,.sl id (g+1) 0 (L.length+1) (.room 4),rfl,by simp +decide only [↓ aB],by simp +decide only [↓ aB,t6],by simp +decide only [↓ aB,t7],by simp +decide only [↓ aB],hlt,?_,by omega,fun id' h=>?_,?_⟩
   ·exact Nat.le_min.2 ⟨hlo,hlowx _ hn⟩
   ·have f9:=dC (show id'<n by omega)
    have f8:id'≠id/\id≠id':=by omega
    simp +decide only [↓ aB,f9,f8,ne_eq];exact hkeep id' h
   ·rw [htk]
    refine AccM.new (g:=g+1) ?_ (by simp) (by simp) (by omega) (by omega);rw [List.flatten_append,show [zs].flatten=zs by simp]
    exact by simp +decide only [↓ aB]
 ·obtain rfl:i=xs.length:=Nat.le_antisymm hi hge
  rw [List.take_length]at hacc;simp +contextual +decide (maxSteps:=1000000) only [↓ wP,wQ,wS,t3,t7,t8,bB];refine ⟨hlow,⟨hn,fun id h=>?_⟩,hacc⟩;rw [Sto.get_mk (Nat.lt_of_lt_of_le h hn),Sto.get_mk h];exact hkeep id h
end
end Go.Proofs.YtkocnhkbgcjpbaaGreat
/-
 The abstract machine: contracts of functions that are left with deferred calls,in any store.
-/
namespace Go.Abs
noncomputable section
variable {P:Program} {O:bZ} {H:dO}
theorem zW {s:Sto} {d:Nat} (h:s.get d=some (.defs (some []))):lF s [.collected d]=some (s.put d (.defs none)):=by simp only [lF,h]
def aMg (P:Program) (rs:List ResultVar) (R:Sto->AV->Prop) (ex:Ex) (e:Env):Prop:=match ex with
 | .normal | .ret=>e.r=.no/\∃ S,lF e.s e.ds=some S/\vW (aT P {e with ds:=[],s:=S} rs) R S
 | _=>False
theorem WL {L:List kS} (hL:∀ x∈L,cH P x) (H:dO) {f:FuncId} {fn:Func} {c:Code} {N:Nat} {rs:List ResultVar} {args:List AV} {s:Sto} {v:AV} (hok:okFn P f=true) (hf:P.funcs[f]?=some fn) (hn:fn.ntmps=N) (hr:fn.results=rs.toArray) (hb:fn.body=some c)
 (ha:Nat.ble args.length N=true)
 (h:Wk P (aV L) H c ⟨N,none,f,Tr.leaf.lay 0 args,[],⟨s.n,s.n,s.o⟩,.no⟩ (aMg P rs fun S r=>(∀ id,id<s.n->S.get id=s.get id)/\Frz S s.n r v)):∃ low,bG P f args s (.ret v (some ⟨s.n,low,s.o⟩)):=by
 have hw:=h.sound;rw [<-gO hn ha]at hw;obtain ⟨n,ex,e,hc,hQ⟩:=hw
 have hrs:fn.results.toList=rs:=by rw [hr]
 have key:(e.r=.no/\∃ S,lF e.s e.ds=some S/\vW (aT P {e with ds:=[],s:=S} rs) (fun S r=>(∀ id,id<s.n->S.get id=s.get id)/\Frz S s.n r v) S)->∃ low,Lv P (aV L) fn none e (RI s (.ret v (some ⟨s.n,low,s.o⟩))):=by
  rintro ⟨h0,S,h1,vs,h2,h3,h4⟩;refine ⟨Nat.min s.low S.low,aDp _ e S rfl h1 (kC rfl (by rw [hrs];exact h2) ⟨h0,?_⟩)⟩;obtain ⟨sn,slow,so⟩:=s
  have hg:∀ id,id<sn->(Sto.mk sn (Nat.min slow S.low) so).get id=S.get id:=fun id hid=>by
   rw [h3 id hid,Sto.get_mk hid,Sto.get_mk hid]
  exact MO (S:=S) (s':=⟨sn,Nat.min slow S.low,so⟩) rfl (Nat.min_le_left _ _) (Nat.min_le_right _ _) (fun h=>h) hg (fun id hid=>.inl (h3 id hid)) h4
 cases ex with
 | normal=>
   obtain ⟨low,hl⟩:=key hQ;exact ⟨low,lO (O:=aV L) (gZ hL) hok hf hb ⟨n,_,e,hc,hl⟩⟩
 | ret=>
   obtain ⟨low,hl⟩:=key hQ;exact ⟨low,lO (O:=aV L) (gZ hL) hok hf hb ⟨n,_,e,hc,hl⟩⟩
 | _=>exact hQ.elim
theorem PV {L:List kS} (hL:∀ x∈L,cH P x) (H:dO) {f:FuncId} {fn:Func} {c:Code} {N:Nat} {args:List AV} {s:Sto} {C:Sto->AV->Prop} (hok:okFn P f=true) (hf:P.funcs[f]?=some fn) (hn:fn.ntmps=N) (hb:fn.body=some c)
 (ha:Nat.ble args.length N=true)
 (h:Wk P (aV L) H c ⟨N,none,f,Tr.leaf.lay 0 args,[],⟨s.n,s.n,s.o⟩,.no⟩ (bodyK P (aV L) fn fun lr e=>e.r=.no/\∃ v,lr=.ret v/\C e.s v)):∃ S v,C S v/\bG P f args s (.ret v (some {S with low:=Nat.min s.low S.low})):=by
 have hw:=h.sound;rw [<-gO hn ha]at hw;obtain ⟨n,ex,e,hc,hQ⟩:=hw
 have key:∀ mode,Lv P (aV L) fn mode e (fun lr e=>e.r=.no/\∃ v,lr=.ret v/\C e.s v)->∃ S v,C S v/\Lv P (aV L) fn mode e (RI s (.ret v (some {S with low:=Nat.min s.low S.low}))):=by
  rintro mode ⟨m,lr,e',hl,h1,v,rfl,h2⟩;exact ⟨e'.s,v,h2,m,_,e',hl,h1,AM⟩
 cases ex with
 | normal=>
   obtain ⟨S,v,hC,hL'⟩:=key none hQ;exact ⟨S,v,hC,lO (O:=aV L) (gZ hL) hok hf hb ⟨n,_,e,hc,hL'⟩⟩
 | ret=>
   obtain ⟨S,v,hC,hL'⟩:=key none hQ;exact ⟨S,v,hC,lO (O:=aV L) (gZ hL) hok hf hb ⟨n,_,e,hc,hL'⟩⟩
 | panic p=>
   obtain ⟨S,v,hC,hL'⟩:=key (some p) hQ;exact ⟨S,v,hC,lO (O:=aV L) (gZ hL) hok hf hb ⟨n,_,e,hc,hL'⟩⟩
 | _=>exact hQ.elim
end
end Go.Abs
/-
 Worlds: copies of worlds whose objects lie in the store.
-/
namespace Go.Proofs.YtkocnhkbgcjpbaaGreat
open Go.Abs Go Go.Abs.TryzF
noncomputable section
set_option maxRecDepth 10000
def aBn (xs:List AV) (args:List AV) (s:Sto) (res:CRes):Prop:=∃ a S v,args=[a]/\res=.ret v (some S)/\bG Tryz.prog 93 args s res/\Nat.min s.low s.n<=S.low/\Sim s S/\AccM 4 s.n v S.n S.o ((xs.map cD).map AV.cells)
theorem LM {a:AV} {xs:List AV} {lo hi:Nat} (hxs:∀ x∈xs,nG x) (hlen:xs.length<=1000) (hsm:∀ o∈xs,yP o) (s:Sto) (hs:StN lo hi s a xs):∃ res,aBn xs [a] s res:=by
 obtain ⟨S,v,⟨h1,h2,h3⟩,h4⟩:=HO s hs hxs hlen hsm;refine ⟨_,a,_,v,rfl,rfl,h4,?_,⟨h2.1,fun id hid=>h2.2 id hid⟩,h3⟩;exact Nat.le_min.2 ⟨Nat.min_le_left _ _,Nat.le_trans (Nat.min_le_right _ _) h1⟩
abbrev oS (xs:List AV):List kS:=[jG 93 (aBn xs),ent 94 mE,ent 95 qJ]
theorem WM {xs:List AV}:∀ x∈oS xs,cH Tryz.prog x:=elist_cons (eS fun _ _ _ h=>by obtain ⟨_,_,_,_,_,h,_⟩:=h;exact h) (elist_cons cloneI_ok.ent (elist_cons cloneO_ok.ent aE))
set_option maxHeartbeats 4000000 in
theorem WN {os ts us is no:AV} {xs:List AV} {lo hi:Nat} (s:Sto) (hos:StN lo hi s os xs) (h1:∀ x∈xs,nG x) (s1:xs.length<=1000) (s2:∀ o∈xs,yP o) (h2:dU ts) (h3:TSl nH us) (h4:dU is) (h5:cS no) (s3:ts.els.length<=1000) (s4:us.els.length<=1000) (s5:is.els.length<=1000):∃ S v,(s.n<=S.low/\Sim s S/\∃ vo,v=.agg [vo,aJ ts,aJ us,aJ is,no]/\AccM 4 s.n vo S.n S.o ((xs.map cD).map AV.cells))/\bG Tryz.prog 55 [wg os ts us is no] s (.ret v (some {S with low:=Nat.min s.low S.low})):=by
 have c1:=hos.cell;have c2:=(aM _ h2).2;have c3:=(cJ _ h3).2;have c4:=(aM _ h4).2;have c5:=(tu_int _ h5).2
 have e2:∀ S,aV (oS xs) 94 [ts] S=some (.ret (aJ ts) none):=fun S=>by
  rw [oS,bL (by decide)];have:mE [ts]=some (aJ ts):=bT ⟨h2,s3⟩;simp [aV,ent,this]<;>rfl
 have e3:∀ S,aV (oS xs) 95 [us] S=some (.ret (aJ us) none):=fun S=>by
  rw [oS,bL (by decide)];have:qJ [us]=some (aJ us):=bT ⟨h3,s4⟩;simp [aV,ent,this]<;>rfl
 have e4:∀ S,aV (oS xs) 94 [is] S=some (.ret (aJ is) none):=fun S=>by
  rw [oS,bL (by decide)];have:mE [is]=some (aJ is):=bT ⟨h4,s5⟩;simp [aV,ent,this]<;>rfl
 have k2:=(aM _ (bF h2))
 have k3:=(cJ _ (bF h3))
 have k4:=(aM _ (bF h4))
 have u2:=fun {m:Nat}=>k2.1.mono (Nat.zero_le m)
 have u3:=fun {m:Nat}=>k3.1.mono (Nat.zero_le m)
 have u4:=fun {m:Nat}=>k4.1.mono (Nat.zero_le m)
 have u5:=fun {m:Nat}=>(tu_int _ h5).1.mono (Nat.zero_le m)
 obtain ⟨n0,low0,o0⟩:=s;refine gW (L:=oS xs) WM (fun _=>([5,8,11],[1000,cQ (n0+1),15])) (by kernel_rfl) Tryz.func55 Tryz.ntmps55 Tryz.results55 rfl rfl ?_
 have hos':StN lo hi ⟨n0+1+1,n0,(o0.set n0 (aS 0 [os,ts,us,is,no])).set (n0+1) (aS 0 [.nils,.nils,.nils,.nils,.int .i64 0])⟩ os xs:=hos.keep fun id hid _ _=>by
  have hid':id<n0:=hid;rw [Sto.get_mk (show id<n0+1+1 by omega),Sto.get_mk hid',Tr.get_set_ne _ _ (by omega),Tr.get_set_ne _ _ (by omega)]
 have u0:UnderE n0 os:=hos.under;have hu1:UnderE (n0+1) os:=u0.mono (Nat.le_succ _);have hu2:UnderE (n0+1+1) os:=hu1.mono (Nat.le_succ _);obtain ⟨_,⟨_,⟨n1,low1,o1⟩,vo,ea,rfl,_,hl,⟨hs1,hs2⟩,hacc⟩,he⟩:=sI (f:=93) (L:=[ent 94 mE,ent 95 qJ]) (LM h1 s1 s2 ⟨n0+1+1,n0,(o0.set n0 (aS 0 [os,ts,us,is,no])).set (n0+1) (aS 0 [.nils,.nils,.nils,.nils,.int .i64 0])⟩ hos');cases ea;unfold wg;have he':aV (oS xs) 93 [os] ⟨n0+1+1,n0,(o0.set n0 (aS 0 [os,ts,us,is,no])).set (n0+1) (aS 0 [.nils,.nils,.nils,.nils,.int .i64 0])⟩=_:=he;clear he;have hs1':n0+1+1<=n1:=hs1
 have gg0:o1.get n0=some (aS 0 [os,ts,us,is,no]):=by
  have:=hs2 n0 (show n0<n0+1+1 by omega);rw [Sto.get_mk (show n0<n1 by omega),Sto.get_mk (show n0<n0+1+1 by omega)]at this
  rw [this];exact by simp +decide only [↓ aB,bE,ne_eq,jR]
 have gg1:o1.get (n0+1)=some (aS 0 [.nils,.nils,.nils,.nils,.int .i64 0]):=by
  have:=hs2 (n0+1) (show n0+1<n0+1+1 by omega);rw [Sto.get_mk (show n0+1<n1 by omega),Sto.get_mk (show n0+1<n0+1+1 by omega)]at this
  rw [this];exact by simp +decide only [↓ aB]
 have hkp:qR (uQ (n0+1+1) (n0+1)) ⟨n0+1+1,n0,(o0.set n0 (aS 0 [os,ts,us,is,no])).set (n0+1) (aS 0 [.nils,.nils,.nils,.nils,.int .i64 0])⟩ ⟨n1,low1,o1⟩:=fun id hid=>hs2 id (Nat.lt_of_lt_of_le hid (Nat.min_le_left _ _))
 have f0:n0<n1/\n0+1<n1:=by omega
 have hvc:vo.isCell=true:=by rcases hacc with ⟨_,rfl⟩ | ⟨_,id,g,rfl,_⟩<;>rfl
 have huv:UnderE n1 vo:=by
  rcases hacc with ⟨_,rfl⟩ | ⟨_,id,g,rfl,_,h,_⟩
  ·exact ⟨1,rfl⟩
  ·exact ⟨1,by simpa [AV.under] using h⟩
 generalize hLL:(oS xs)=LL at *;simp +contextual +decide (maxSteps:=1000000) only [↓ wP,wQ,tf,Nat.reduceAdd,wS,c1,c2,c3,c4,c5,e2,e3,e4,he',hu2,u2,u3,u4,u5,k2.2,k3.2,k4.2,pH,wV,jD,hs1',gg0,gg1,hkp,f0,hvc,huv,jR,bA,Option.bind_some];have hl':Nat.min n0 (n0+1+1)<=low1:=hl
 have hl2:n0<=low1:=by
  have:Nat.min n0 (n0+1+1)=n0:=Nat.min_eq_left (by omega);omega
 refine ⟨Nat.le_min.2 ⟨by omega,hl2⟩,⟨by show n0<=n1;omega,fun id hid=>?_⟩,vo,rfl,?_⟩
 ·have hid':id<n0:=hid
  have:=hs2 id (show id<n0+1+1 by omega);rw [Sto.get_mk (show id<n1 by omega),Sto.get_mk (show id<n0+1+1 by omega)]at this;rw [Sto.get_mk (show id<n1 by omega),Sto.get_mk hid',Tr.get_set_ne _ _ (by omega),this,Tr.get_set_ne _ _ (by omega),Tr.get_set_ne _ _ (by omega)]
 ·rcases hacc with ⟨q1,rfl⟩ | ⟨q1,id,g,rfl,q2,q3,q4⟩
  ·exact .inl ⟨q1,rfl⟩
  ·have q4':n0+1+1<=id:=q4
   exact .inr ⟨q1,id,g,rfl,by rw [Tr.get_set_ne _ _ (by omega)];exact q2,q3,by omega⟩
end
end Go.Proofs.YtkocnhkbgcjpbaaGreat
