/-
  Copies of rows and of worlds that lie in what is new, and can be appended to.
-/
import Derived.Test.YtifmdaalhclhgaaGreatSd
set_option linter.unusedVariables false
set_option linter.unusedSimpArgs false
namespace Go.Abs
noncomputable section
def CapS (k lo:Nat) (v:AV) (n:Nat) (o:Tr AObj) (xs:List AV):Prop:=
 (xs=[]/\v=.nils)∨(∃ id g,v=.sl id g 0 xs.length (.room k)/\xs≠[]/\o.get id=some (aY g (xs.map AV.cells).flatten)/\id<n/\lo<=id)∨(∃ id,xs=[]/\v=.sl id 0 0 0 (.is 0)/\o.get id=some (aY 0 [])/\id<n/\lo<=id)
theorem CapS.cell {k lo n:Nat} {v:AV} {o:Tr AObj} {xs:List AV} (h:CapS k lo v n o xs):v.isCell=true:=by
 rcases h with ⟨_,rfl⟩ | ⟨_,_,rfl,_⟩ | ⟨_,_,rfl,_⟩<;>rfl
theorem CapS.under {k lo n:Nat} {v:AV} {o:Tr AObj} {xs:List AV} (h:CapS k lo v n o xs):UnderE n v:=by
 rcases h with ⟨_,rfl⟩ | ⟨_,_,rfl,_,_,h,_⟩ | ⟨_,_,rfl,_,h,_⟩
 ·exact ⟨1,rfl⟩
 ·exact ⟨1,by simpa [AV.under] using h⟩
 ·exact ⟨1,by simpa [AV.under] using h⟩
theorem CapS.keep {k lo n n':Nat} {v:AV} {o o':Tr AObj} {xs:List AV} (h:CapS k lo v n o xs) (hn:n<=n') (hs:∀ id,lo<=id->id<n->o'.get id=o.get id):CapS k lo v n' o' xs:=by
 rcases h with h | ⟨id,g,h1,h2,h3,h4,h5⟩ | ⟨id,h1,h2,h3,h4,h5⟩
 ·exact .inl h
 ·exact .inr (.inl ⟨id,g,h1,h2,by rw [hs id h5 h4];exact h3,Nat.lt_of_lt_of_le h4 hn,h5⟩)
 ·exact .inr (.inr ⟨id,h1,h2,by rw [hs id h5 h4];exact h3,Nat.lt_of_lt_of_le h4 hn,h5⟩)
theorem CapS.lo_mono {k lo lo' n:Nat} {v:AV} {o:Tr AObj} {xs:List AV} (h:CapS k lo v n o xs) (hl:lo'<=lo):CapS k lo' v n o xs:=by
 rcases h with h | ⟨id,g,h1,h2,h3,h4,h5⟩ | ⟨id,h1,h2,h3,h4,h5⟩
 ·exact .inl h
 ·exact .inr (.inl ⟨id,g,h1,h2,h3,h4,aE⟩)
 ·exact .inr (.inr ⟨id,h1,h2,h3,h4,aE⟩)
theorem CapS.acc {k lo n:Nat} {v:AV} {o:Tr AObj} {xs:List AV} (h:AccM k lo v n o (xs.map AV.cells)):CapS k lo v n o xs:=by
 rcases h with ⟨h1,h2⟩ | ⟨h1,id,g,h2,h3,h4,h5⟩
 ·exact .inl ⟨List.map_eq_nil_iff.1 h1,h2⟩
 ·exact .inr (.inl ⟨id,g,by rw [h2,List.length_map],fun e=>h1 (by rw [e];rfl),h3,h4,h5⟩)
end
end Go.Abs
namespace Go.Proofs.YtifmdaalhclhgaaGreat
open Go.Abs Go Go.Abs.TryzF
noncomputable section
set_option maxRecDepth 10000
set_option maxHeartbeats 2000000 in
theorem QM {a:AV} (ha:dE a) (hlen:a.els.length<=1000) (s:Sto):∃ S v,(s.n<=S.low/\Sim s S/\CapS 1 s.n v S.n S.o a.els)/\bV Tryz.prog 73 [a] s (.ret v (some {S with low:=Nat.min s.low S.low})):=by
 obtain ⟨xs,hs,hxs⟩:=ha;rw [hs.els]at hlen ⊢;refine oR (L:=[]) aD aN (by kernel_rfl) Tryz.func73 Tryz.ntmps73 Tryz.results73 rfl rfl ?_;obtain ⟨n0,low0,o0⟩:=s
 rcases hs.1 with ⟨rfl,rfl⟩ | ⟨c,rfl⟩
 ·refine FJ @aDd ?_
  exact ⟨Sim.low _ _,.inl ⟨rfl,rfl⟩⟩
 ·have hcell:∀ x∈xs,x.cells.length=1/\x.cells.all AV.isCell=true:=fun x hx=>by
   rw [dO (tu_int x (hxs x hx)).2];exact ⟨rfl,by simp [(tu_int x (hxs x hx)).2]⟩
  have hy:=fun {s:Sto}=>vV (s:=s) (c:=c) hcell
  have hall:(xs.flatMap AV.cells).all AV.isCell=true:=List.all_eq_true.2 fun y hy=>by
   obtain ⟨x,hx,hy⟩:=List.mem_flatMap.1 hy;exact List.all_eq_true.1 (hcell x hx).2 y hy
  by_cases h0:xs.length=0
  ·have:xs=[]:=List.length_eq_zero_iff.1 h0
   subst this;have hap:=mL (s:=⟨n0+1,n0,o0.set n0 (aY 0 [])⟩) (k:=1) (by_:=8) (id:=n0) (by rw [Sto.get_mk aE];exact Tr.get_set_same _ _ _);simp +contextual +decide (maxSteps:=1000000) only [↓ wP,wQ,tf,wS,VE,hy,hap,List.flatMap_nil];refine ⟨by rw [show n0.min n0=n0 from Nat.min_self n0];exact Nat.le_refl _,⟨Nat.le_succ _,fun id hid=>?_⟩,.inr (.inr ⟨n0,rfl,rfl,Tr.get_set_same _ _ _,Nat.lt_succ_self _,Nat.le_refl _⟩)⟩;have hid':id<n0:=hid;rw [Sto.get_mk (show id<n0+1 by omega),Sto.get_mk hid',Tr.get_set_ne _ _ aE,Tr.get_set_ne _ _ aE]
  ·have hap:=oQ (s:=⟨n0+1,n0,o0.set n0 (aY 0 [])⟩) (k:=1) (by_:=8) (id:=n0) (n:=xs.length) (new:=xs.flatMap AV.cells) (by rw [Sto.get_mk aE];exact Tr.get_set_same _ _ _) h0 aE hall
   refine yQ @VE @hy @hap ?_;refine ⟨⟨show n0<=n0+1+1 by omega,fun id hid=>?_⟩,.inr (.inl ⟨n0+1,0,rfl,fun e=>h0 (by rw [e];rfl),by rw [<-List.flatMap_def];exact Tr.get_set_same _ _ _,by show n0+1<n0+1+1;omega,by show n0<=n0+1;omega⟩)⟩;have hid':id<n0:=hid;rw [Sto.get_mk (show id<n0+1+1 by omega),Sto.get_mk hid',Tr.get_set_ne _ _ aE,Tr.get_set_ne _ _ aE]
set_option maxHeartbeats 2000000 in
theorem QN {a:AV} (ha:TSl jY a) (hlen:a.els.length<=1000) (s:Sto):∃ S v,(s.n<=S.low/\Sim s S/\CapS 2 s.n v S.n S.o a.els)/\bV Tryz.prog 74 [a] s (.ret v (some {S with low:=Nat.min s.low S.low})):=by
 obtain ⟨xs,hs,hxs⟩:=ha;rw [hs.els]at hlen ⊢;refine oR (L:=[]) aD aN (by kernel_rfl) Tryz.func74 Tryz.ntmps74 Tryz.results74 rfl rfl ?_;obtain ⟨n0,low0,o0⟩:=s
 rcases hs.1 with ⟨rfl,rfl⟩ | ⟨c,rfl⟩
 ·refine FJ @aDe ?_
  exact ⟨Sim.low _ _,.inl ⟨rfl,rfl⟩⟩
 ·have hcell:∀ x∈xs,x.cells.length=2/\x.cells.all AV.isCell=true:=fun x hx=>by
   obtain ⟨_,cs,rfl,h1,h2⟩:=tk_out x (hxs x hx);exact ⟨h1,h2⟩
  have hy:=fun {s:Sto}=>vV (s:=s) (c:=c) hcell
  have hall:(xs.flatMap AV.cells).all AV.isCell=true:=List.all_eq_true.2 fun y hy=>by
   obtain ⟨x,hx,hy⟩:=List.mem_flatMap.1 hy;exact List.all_eq_true.1 (hcell x hx).2 y hy
  by_cases h0:xs.length=0
  ·have:xs=[]:=List.length_eq_zero_iff.1 h0
   subst this;have hap:=mL (s:=⟨n0+1,n0,o0.set n0 (aY 0 [])⟩) (k:=2) (by_:=16) (id:=n0) (by rw [Sto.get_mk aE];exact Tr.get_set_same _ _ _);simp +contextual +decide (maxSteps:=1000000) only [↓ wP,wQ,tf,wS,VF,hy,hap,List.flatMap_nil];refine ⟨by rw [show n0.min n0=n0 from Nat.min_self n0];exact Nat.le_refl _,⟨Nat.le_succ _,fun id hid=>?_⟩,.inr (.inr ⟨n0,rfl,rfl,Tr.get_set_same _ _ _,Nat.lt_succ_self _,Nat.le_refl _⟩)⟩;have hid':id<n0:=hid;rw [Sto.get_mk (show id<n0+1 by omega),Sto.get_mk hid',Tr.get_set_ne _ _ aE,Tr.get_set_ne _ _ aE]
  ·have hap:=oQ (s:=⟨n0+1,n0,o0.set n0 (aY 0 [])⟩) (k:=2) (by_:=16) (id:=n0) (n:=xs.length) (new:=xs.flatMap AV.cells) (by rw [Sto.get_mk aE];exact Tr.get_set_same _ _ _) h0 aE hall
   refine yQ @VF @hy @hap ?_;refine ⟨⟨show n0<=n0+1+1 by omega,fun id hid=>?_⟩,.inr (.inl ⟨n0+1,0,rfl,fun e=>h0 (by rw [e];rfl),by rw [<-List.flatMap_def];exact Tr.get_set_same _ _ _,by show n0+1<n0+1+1;omega,by show n0<=n0+1;omega⟩)⟩;have hid':id<n0:=hid;rw [Sto.get_mk (show id<n0+1+1 by omega),Sto.get_mk hid',Tr.get_set_ne _ _ aE,Tr.get_set_ne _ _ aE]
def RCI (args:List AV) (s:Sto) (res:CRes):Prop:=∃ a S v,args=[a]/\res=.ret v (some S)/\bV Tryz.prog 73 args s res/\Nat.min s.low s.n<=S.low/\Sim s S/\CapS 1 s.n v S.n S.o a.els
theorem LW {a:AV} (ha:dE a) (hlen:a.els.length<=1000) (s:Sto):∃ res,RCI [a] s res:=by
 obtain ⟨S,v,⟨h1,h2,h3⟩,h4⟩:=QM ha hlen s;refine ⟨_,a,_,v,rfl,rfl,h4,?_,⟨h2.1,fun id hid=>h2.2 id hid⟩,h3⟩;exact Nat.le_min.2 ⟨Nat.min_le_left _ _,Nat.le_trans (Nat.min_le_right _ _) h1⟩
def RCO (args:List AV) (s:Sto) (res:CRes):Prop:=∃ a S v,args=[a]/\res=.ret v (some S)/\bV Tryz.prog 74 args s res/\Nat.min s.low s.n<=S.low/\Sim s S/\CapS 2 s.n v S.n S.o a.els
theorem aCl {a:AV} (ha:TSl jY a) (hlen:a.els.length<=1000) (s:Sto):∃ res,RCO [a] s res:=by
 obtain ⟨S,v,⟨h1,h2,h3⟩,h4⟩:=QN ha hlen s;refine ⟨_,a,_,v,rfl,rfl,h4,?_,⟨h2.1,fun id hid=>h2.2 id hid⟩,h3⟩;exact Nat.le_min.2 ⟨Nat.min_le_left _ _,Nat.le_trans (Nat.min_le_right _ _) h1⟩
abbrev LX:List lL:=[xN 72 aDc,xN 73 RCI,xN 74 RCO]
theorem aIv:∀ x∈LX,cP Tryz.prog x:=elist_cons (tR fun _ _ _ h=>by obtain ⟨_,_,_,_,_,h,_⟩:=h;exact h) (elist_cons (tR fun _ _ _ h=>by obtain ⟨_,_,_,_,_,h,_⟩:=h;exact h) (elist_cons (tR fun _ _ _ h=>by obtain ⟨_,_,_,_,_,h,_⟩:=h;exact h) aD))
theorem aCm {a:AV} {s:Sto} (h:∃ res,RCI [a] s res):∃ S v,bK LX 73 [a] s=some (.ret v (some S))/\Nat.min s.low s.n<=S.low/\Sim s S/\CapS 1 s.n v S.n S.o a.els:=by
 obtain ⟨_,⟨a',S,v,ea,rfl,_,h1,h2,h3⟩,he⟩:=oS (f:=73) (L:=[xN 74 RCO]) h;cases ea;exact ⟨S,v,by rw [LX,tS (by decide)];exact he,h1,h2,h3⟩
theorem aOn {a:AV} {s:Sto} (h:∃ res,RCO [a] s res):∃ S v,bK LX 74 [a] s=some (.ret v (some S))/\Nat.min s.low s.n<=S.low/\Sim s S/\CapS 2 s.n v S.n S.o a.els:=by
 obtain ⟨_,⟨a',S,v,ea,rfl,_,h1,h2,h3⟩,he⟩:=oS (f:=74) (L:=[]) h;cases ea;exact ⟨S,v,by rw [LX,tS (by decide),tS (by decide)];exact he,h1,h2,h3⟩
theorem aOo {a:AV} {s:Sto} (h:∃ res,aDc [a] s res):∃ S v,bK LX 72 [a] s=some (.ret v (some S))/\Nat.min s.low s.n<=S.low/\Sim s S/\CapS 4 s.n v S.n S.o (a.els.map cV):=by
 obtain ⟨_,⟨a',S,v,ea,rfl,_,h1,h2,h3⟩,he⟩:=oS (f:=72) (L:=[xN 73 RCI,xN 74 RCO]) h;cases ea;exact ⟨S,v,he,h1,h2,CapS.acc h3⟩
theorem cW {n low n' low':Nat} {o o':Tr AObj} (h:Sim ⟨n,low,o⟩ ⟨n',low',o'⟩) {i:Nat} (hi:i<n):o'.get i=o.get i:=by
 have:=h.2 i hi;have h1:n<=n':=h.1
 rwa [Sto.get_mk (show i<n' by omega),Sto.get_mk hi]at this
theorem tF {n low n' low' m k:Nat} {o o':Tr AObj} (h:Sim ⟨n,low,o⟩ ⟨n',low',o'⟩) (hm:m<=n):mW (uQ m k) ⟨n,low,o⟩ ⟨n',low',o'⟩:=fun id hid=>h.2 id (Nat.lt_of_lt_of_le hid (Nat.le_trans (Nat.min_le_left _ _) hm))
def CpW (xo xt xu xi:List AV) (no:AV) (s S:Sto) (v:AV):Prop:=∃ a b c d h1 h2 h3,v=.agg [a,b,c,d,no]/\s.n<=h1/\h1<=h2/\h2<=h3/\h3<=S.n/\CapS 4 s.n a h1 S.o xo/\CapS 1 h1 b h2 S.o xt/\CapS 2 h2 c h3 S.o xu/\CapS 1 h3 d S.n S.o xi
set_option maxHeartbeats 8000000 in
theorem aCn {os ts us is no:AV} (hw:WG os ts us is no) (hsm:XX (wg os ts us is no)) (s:Sto):∃ S v,(s.n<=S.low/\Sim s S/\CpW (os.els.map cV) ts.els us.els is.els no s S v)/\bV Tryz.prog 55 [wg os ts us is no] s (.ret v (some {S with low:=Nat.min s.low S.low})):=by
 obtain ⟨⟨s1,s2⟩,s3,s4,s5⟩:=hsm;obtain ⟨c1,c2,c3,c4,c5⟩:=hw.cells;obtain ⟨h1,h2,h3,h4,h5⟩:=hw
 have u1:=fun {m:Nat}=>(cD _ h1).1.mono (Nat.zero_le m)
 have u2:=fun {m:Nat}=>(aL _ h2).1.mono (Nat.zero_le m)
 have u3:=fun {m:Nat}=>(bJ _ h3).1.mono (Nat.zero_le m)
 have u4:=fun {m:Nat}=>(aL _ h4).1.mono (Nat.zero_le m)
 have u5:=fun {m:Nat}=>(tu_int _ h5).1.mono (Nat.zero_le m)
 obtain ⟨n0,low0,o0⟩:=s;refine oR (L:=LX) aIv (fun _=>([],[1000,uR (n0+1),15])) (by kernel_rfl) Tryz.func55 Tryz.ntmps55 Tryz.results55 rfl rfl ?_;obtain ⟨⟨n1,l1,o1⟩,a,e1,b1,m1,z1⟩:=aOo (QZ h1 s1 s2 ⟨n0+1+1,n0,(o0.set n0 (aY 0 [os,ts,us,is,no])).set (n0+1) (aY 0 [.nils,.nils,.nils,.nils,.int .i64 0])⟩);obtain ⟨⟨n2,l2,o2⟩,b,e2,b2,m2,z2⟩:=aCm (LW h2 s3 ⟨n1,l1,o1⟩);obtain ⟨⟨n3,l3,o3⟩,c,e3,b3,m3,z3⟩:=aOn (aCl h3 s4 ⟨n2,l2,o2⟩);obtain ⟨⟨n4,l4,o4⟩,d,e4,b4,m4,z4⟩:=aCm (LW h4 s5 ⟨n3,l3,o3⟩);have y1:n0+1+1<=n1:=m1.1;have y2:n1<=n2:=m2.1;have y3:n2<=n3:=m3.1;have y4:n3<=n4:=m4.1
 have g0:o1.get n0=some (aY 0 [os,ts,us,is,no])/\o1.get (n0+1)=some (aY 0 [.nils,.nils,.nils,.nils,.int .i64 0]):=by
  rw [cW m1 (show n0<n0+1+1 by omega),cW m1 (show n0+1<n0+1+1 by omega)];exact ⟨rB @cT,aG⟩
 have g1:o2.get n0=some (aY 0 [os,ts,us,is,no])/\o2.get (n0+1)=some (aY 0 [.nils,.nils,.nils,.nils,.int .i64 0]):=by
  rw [cW m2 (show n0<n1 by omega),cW m2 (show n0+1<n1 by omega)];exact g0
 have g2:o3.get n0=some (aY 0 [os,ts,us,is,no])/\o3.get (n0+1)=some (aY 0 [.nils,.nils,.nils,.nils,.int .i64 0]):=by
  rw [cW m3 (show n0<n2 by omega),cW m3 (show n0+1<n2 by omega)];exact g1
 have g3:o4.get n0=some (aY 0 [os,ts,us,is,no])/\o4.get (n0+1)=some (aY 0 [.nils,.nils,.nils,.nils,.int .i64 0]):=by
  rw [cW m4 (show n0<n3 by omega),cW m4 (show n0+1<n3 by omega)];exact g2
 have f1:n0<n1/\n0+1<n1/\n0<n2/\n0+1<n2/\n0<n3/\n0+1<n3/\n0<n4/\n0+1<n4:=by omega
 have kp1:mW (uQ (n0+1+1) (n0+1)) ⟨n0+1+1,n0,(o0.set n0 (aY 0 [os,ts,us,is,no])).set (n0+1) (aY 0 [.nils,.nils,.nils,.nils,.int .i64 0])⟩ ⟨n1,l1,o1⟩:=tF m1 (Nat.le_refl _);have kp2:mW (uQ (n0+1+1) (n0+1)) ⟨n1,l1,o1⟩ ⟨n2,l2,o2⟩:=tF m2 y1;have kp3:mW (uQ (n0+1+1) (n0+1)) ⟨n2,l2,o2⟩ ⟨n3,l3,o3⟩:=tF m3 aE;have kp4:mW (uQ (n0+1+1) (n0+1)) ⟨n3,l3,o3⟩ ⟨n4,l4,o4⟩:=tF m4 aE;have x1:=z1.under
 have v1:UnderE n4 a/\UnderE n4 b/\UnderE n4 c/\UnderE n4 d:=⟨z1.under.mono (show n1<=n4 by omega),z2.under.mono (show n2<=n4 by omega),z3.under.mono (show n3<=n4 by omega),z4.under⟩
 have w1:=And.intro z1.cell (And.intro z2.cell (And.intro z3.cell z4.cell));unfold wg;generalize hLL:LX=LL at *;simp +contextual +decide (maxSteps:=1000000) only [↓ wP,wQ,tf,Nat.reduceAdd,wS,c1,c2,c3,c4,c5,e1,e2,e3,e4,u1,u2,u3,u4,u5,g0,g1,g2,g3,f1,y1,y2,y3,y4,kp1,kp2,kp3,kp4,v1,w1,GM,MF,mK,cT,aR,Option.bind_some];have q1:n0<=l1:=Nat.le_trans (Nat.le_min.2 ⟨Nat.le_refl _,show n0<=n0+1+1 by omega⟩) b1;have q2:n0<=l2:=Nat.le_trans (Nat.le_min.2 ⟨q1,show n0<=n1 by omega⟩) b2;have q3:n0<=l3:=Nat.le_trans (Nat.le_min.2 ⟨q2,show n0<=n2 by omega⟩) b3;have q4:n0<=l4:=Nat.le_trans (Nat.le_min.2 ⟨q3,show n0<=n3 by omega⟩) b4;refine ⟨Nat.le_min.2 ⟨Nat.le_succ _,q4⟩,⟨show n0<=n4 by omega,fun id hid=>?_⟩,a,b,c,d,n1,n2,n3,rfl,show n0<=n1 by omega,y2,y3,y4,?_,?_,?_,?_⟩
 ·have hid':id<n0:=hid
  rw [Sto.get_mk (show id<n4 by omega),Sto.get_mk hid',Tr.get_set_ne _ _ aE,cW m4 aE,cW m3 aE,cW m2 aE,cW m1 aE,Tr.get_set_ne _ _ aE,Tr.get_set_ne _ _ aE]
 ·refine (z1.keep (Nat.le_refl _) fun id ha hb=>?_).lo_mono (show n0<=n0+1+1 by omega)
  have ha':n0+1+1<=id:=ha;have hb':id<n1:=hb;rw [Tr.get_set_ne _ _ aE,cW m4 aE,cW m3 aE,cW m2 aE]
 ·refine z2.keep (Nat.le_refl _) fun id ha hb=>?_
  have ha':n1<=id:=ha;have hb':id<n2:=hb;rw [Tr.get_set_ne _ _ aE,cW m4 aE,cW m3 aE]
 ·refine z3.keep (Nat.le_refl _) fun id ha hb=>?_
  have ha':n2<=id:=ha;have hb':id<n3:=hb;rw [Tr.get_set_ne _ _ aE,cW m4 aE]
 ·refine z4.keep (Nat.le_refl _) fun id ha hb=>?_
  have ha':n3<=id:=ha;rw [Tr.get_set_ne _ _ aE]
def aRx (args:List AV) (s:Sto) (res:CRes):Prop:=∃ os ts us is no S v,args=[wg os ts us is no]/\res=.ret v (some S)/\bV Tryz.prog 55 args s res/\Sim s S/\CpW (os.els.map cV) ts.els us.els is.els no s S v
theorem XS {os ts us is no:AV} (hw:WG os ts us is no) (hsm:XX (wg os ts us is no)) (s:Sto):∃ res,aRx [wg os ts us is no] s res:=by
 obtain ⟨S,v,⟨_,h2,h3⟩,h4⟩:=aCn hw hsm s;exact ⟨_,os,ts,us,is,no,_,v,rfl,rfl,h4,⟨h2.1,fun id hid=>h2.2 id hid⟩,h3⟩
def aCo (f:Nat->Bool) (i m:Nat):Bool:=(List.range' i (m-i)).all f
theorem CF {f:Nat->Bool} {m:Nat}:aCo f 0 m=true↔∀ i,i<m->f i=true:=by
 rw [aCo,List.all_eq_true];constructor
 ·intro h i hi
  exact h i (by rw [List.mem_range'_1];omega)
 ·intro h i hi
  rw [List.mem_range'_1]at hi;exact h i aE
def pl (xs:List AV) (i:Nat):Int:=((xs.getD i .top).fld 0).num
def GI (n:Nat) (xs:List AV) (i:Nat):Bool:=decide (0<=pl xs i)&&(decide (pl xs i<(n:Nat))&&(decide (i=0)||decide (pl xs (i-1)<pl xs i)))
def QO (w d:AV):Bool:=aCo (GI (w.fld 0).els.length (d.fld 0).els) 0 (d.fld 0).els.length&&(decide (0<=(d.fld 4).num)&&decide ((d.fld 4).num<=((w.fld 3).els.length:Nat)))
theorem aMy {xs:List AV} {i:Nat} {n:Int} {a b c d:AV} (h:xs[i]?=some (.agg [.int .i64 n,a,b,c,d])):pl xs i=n:=by
 rw [pl,List.getD_eq_getElem?_getD,h];rfl
theorem CG:Sl .nils []:=⟨.inl ⟨rfl,rfl⟩,by simp⟩
theorem aRy {a b c:AV} (ha:TSl fX a) (hb:dE b) (hc:TSl jY c):tO (.agg [a,b,c,.nils,.int .i64 0]):=⟨_,_,_,_,_,rfl,ha,hb,hc,⟨[],CG,by simp⟩,_,rfl⟩
theorem mI {x:AV} (h:BB x):fX (pQ x):=by
 obtain ⟨_,_,_,_,_,rfl,_,h1,h2,h3,h4⟩:=h;exact ⟨_,_,_,_,rfl,h1,h2,h3,h4⟩
end
end Go.Proofs.YtifmdaalhclhgaaGreat
