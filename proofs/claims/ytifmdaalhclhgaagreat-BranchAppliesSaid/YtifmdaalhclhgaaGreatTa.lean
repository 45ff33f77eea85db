/-
  Copies of rows and of worlds that lie in what is new, and can be appended to.
-/
import Derived.Test.YtifmdaalhclhgaaGreatSi
set_option linter.unusedVariables false
set_option linter.unusedSimpArgs false
namespace Go.Abs
noncomputable section
def CapS (k lo:Nat) (v:AV) (n:Nat) (o:Tr AObj) (xs:List AV):Prop:=
 (xs=[]/\v=.nils)∨(∃ id g,v=.sl id g 0 xs.length (.room k)/\xs≠[]/\o.get id=some (bA g (xs.map AV.cells).flatten)/\id<n/\lo<=id)∨(∃ id,xs=[]/\v=.sl id 0 0 0 (.is 0)/\o.get id=some (bA 0 [])/\id<n/\lo<=id)
theorem CapS.cell {k lo n:Nat} {v:AV} {o:Tr AObj} {xs:List AV} (h:CapS k lo v n o xs):v.isCell=true:=by
 rcases h with ⟨_,rfl⟩ | ⟨_,_,rfl,_⟩ | ⟨_,_,rfl,_⟩<;>rfl
theorem CapS.under {k lo n:Nat} {v:AV} {o:Tr AObj} {xs:List AV} (h:CapS k lo v n o xs):UnderE n v:=by
 rcases h with ⟨_,rfl⟩ | ⟨_,_,rfl,_,_,h,_⟩ | ⟨_,_,rfl,_,h,_⟩
 ·exact ⟨1,rfl⟩
 ·exact ⟨1,by simpa [AV.under] using h⟩
 ·exact ⟨1,by simpa [AV.under] using h⟩
theorem CapS.keep {k lo n n':Nat} {v:AV} {o o':Tr AObj} {xs:List AV} (h:CapS k lo v n o xs) (hn:n<=n') (hs:∀ id,lo<=id->id<n->o'.get id=o.get id):CapS k lo v n' o' xs:=by
 rcases h with h | ⟨id,g,h1,h2,h3,h4,h5⟩ | ⟨id,h1,h2,h3,h4,h5⟩
 ·exact .inl h
 ·exact .inr (.inl ⟨id,g,h1,h2,by rw [hs id h5 h4];exact h3,Nat.lt_of_lt_of_le h4 hn,h5⟩)
 ·exact .inr (.inr ⟨id,h1,h2,by rw [hs id h5 h4];exact h3,Nat.lt_of_lt_of_le h4 hn,h5⟩)
theorem CapS.lo_mono {k lo lo' n:Nat} {v:AV} {o:Tr AObj} {xs:List AV} (h:CapS k lo v n o xs) (hl:lo'<=lo):CapS k lo' v n o xs:=by
 rcases h with h | ⟨id,g,h1,h2,h3,h4,h5⟩ | ⟨id,h1,h2,h3,h4,h5⟩
 ·exact .inl h
 ·exact .inr (.inl ⟨id,g,h1,h2,h3,h4,by omega⟩)
 ·exact .inr (.inr ⟨id,h1,h2,h3,h4,by omega⟩)
theorem CapS.acc {k lo n:Nat} {v:AV} {o:Tr AObj} {xs:List AV} (h:AccM k lo v n o (xs.map AV.cells)):CapS k lo v n o xs:=by
 rcases h with ⟨h1,h2⟩ | ⟨h1,id,g,h2,h3,h4,h5⟩
 ·exact .inl ⟨List.map_eq_nil_iff.1 h1,h2⟩
 ·exact .inr (.inl ⟨id,g,by rw [h2,List.length_map],fun e=>h1 (by rw [e];rfl),h3,h4,h5⟩)
end
end Go.Abs
namespace Go.Proofs.YtifmdaalhclhgaaGreat
open Go.Abs Go Go.Abs.TryzF
noncomputable section
set_option maxRecDepth 10000
set_option maxHeartbeats 2000000 in
theorem KW {a:AV} (ha:eU a) (hlen:a.els.length<=1000) (s:Sto):∃ S v,(s.n<=S.low/\Sim s S/\CapS 1 s.n v S.n S.o a.els)/\bL Tryz.prog 73 [a] s (.ret v (some {S with low:=Nat.min s.low S.low})):=by
 obtain ⟨xs,hs,hxs⟩:=ha;rw [hs.els]at hlen ⊢;refine nQ (L:=[]) aH aM (by kernel_rfl) Tryz.func73 Tryz.ntmps73 Tryz.results73 rfl rfl ?_;obtain ⟨n0,low0,o0⟩:=s
 rcases hs.1 with ⟨rfl,rfl⟩ | ⟨c,rfl⟩
 ·simp +contextual +decide (maxSteps:=1000000) only [↓ wP,wQ,tf,Nat.reduceAdd,wS,reduceCtorEq,aHo]
  exact ⟨Sim.low _ _,.inl ⟨rfl,rfl⟩⟩
 ·have hcell:∀ x∈xs,x.cells.length=1/\x.cells.all AV.isCell=true:=fun x hx=>by
   rw [eA (tu_int x (hxs x hx)).2];exact ⟨rfl,by simp [(tu_int x (hxs x hx)).2]⟩
  have hy:=fun {s:Sto}=>AN (s:=s) (c:=c) hcell
  have hall:(xs.flatMap AV.cells).all AV.isCell=true:=List.all_eq_true.2 fun y hy=>by
   obtain ⟨x,hx,hy⟩:=List.mem_flatMap.1 hy;exact List.all_eq_true.1 (hcell x hx).2 y hy
  by_cases h0:xs.length=0
  ·have:xs=[]:=List.length_eq_zero_iff.1 h0
   subst this;have hap:=tB (s:=⟨n0+1,n0,o0.set n0 (bA 0 [])⟩) (k:=1) (by_:=8) (id:=n0) (by rw [Sto.get_mk (by omega)];exact Tr.get_set_same _ _ _);simp +contextual +decide (maxSteps:=1000000) only [↓ wP,wQ,tf,Nat.reduceAdd,wS,reduceCtorEq,aGa,hy,hap,List.length_nil,List.flatMap_nil,Sto.put_any];refine ⟨by rw [show n0.min n0=n0 from Nat.min_self n0];exact Nat.le_refl _,⟨Nat.le_succ _,fun id hid=>?_⟩,.inr (.inr ⟨n0,rfl,rfl,Tr.get_set_same _ _ _,Nat.lt_succ_self _,Nat.le_refl _⟩)⟩;have hid':id<n0:=hid;rw [Sto.get_mk (show id<n0+1 by omega),Sto.get_mk hid',Tr.get_set_ne _ _ (by omega),Tr.get_set_ne _ _ (by omega)]
  ·have hap:=wE (s:=⟨n0+1,n0,o0.set n0 (bA 0 [])⟩) (k:=1) (by_:=8) (id:=n0) (n:=xs.length) (new:=xs.flatMap AV.cells) (by rw [Sto.get_mk (by omega)];exact Tr.get_set_same _ _ _) h0 (by omega) hall
   simp +contextual +decide (maxSteps:=1000000) only [↓ wP,wQ,tf,Nat.reduceAdd,wS,reduceCtorEq,aGa,hy,hap,Sto.push_mk];refine ⟨⟨show n0<=n0+1+1 by omega,fun id hid=>?_⟩,.inr (.inl ⟨n0+1,0,rfl,fun e=>h0 (by rw [e];rfl),by rw [<-List.flatMap_def];exact Tr.get_set_same _ _ _,by show n0+1<n0+1+1;omega,by show n0<=n0+1;omega⟩)⟩;have hid':id<n0:=hid;rw [Sto.get_mk (show id<n0+1+1 by omega),Sto.get_mk hid',Tr.get_set_ne _ _ (by omega),Tr.get_set_ne _ _ (by omega)]
set_option maxHeartbeats 2000000 in
theorem KX {a:AV} (ha:TSl lB a) (hlen:a.els.length<=1000) (s:Sto):∃ S v,(s.n<=S.low/\Sim s S/\CapS 2 s.n v S.n S.o a.els)/\bL Tryz.prog 74 [a] s (.ret v (some {S with low:=Nat.min s.low S.low})):=by
 obtain ⟨xs,hs,hxs⟩:=ha;rw [hs.els]at hlen ⊢;refine nQ (L:=[]) aH aM (by kernel_rfl) Tryz.func74 Tryz.ntmps74 Tryz.results74 rfl rfl ?_;obtain ⟨n0,low0,o0⟩:=s
 rcases hs.1 with ⟨rfl,rfl⟩ | ⟨c,rfl⟩
 ·simp +contextual +decide (maxSteps:=1000000) only [↓ wP,wQ,tf,Nat.reduceAdd,wS,reduceCtorEq,aHp]
  exact ⟨Sim.low _ _,.inl ⟨rfl,rfl⟩⟩
 ·have hcell:∀ x∈xs,x.cells.length=2/\x.cells.all AV.isCell=true:=fun x hx=>by
   obtain ⟨_,cs,rfl,h1,h2⟩:=tk_out x (hxs x hx);exact ⟨h1,h2⟩
  have hy:=fun {s:Sto}=>AN (s:=s) (c:=c) hcell
  have hall:(xs.flatMap AV.cells).all AV.isCell=true:=List.all_eq_true.2 fun y hy=>by
   obtain ⟨x,hx,hy⟩:=List.mem_flatMap.1 hy;exact List.all_eq_true.1 (hcell x hx).2 y hy
  by_cases h0:xs.length=0
  ·have:xs=[]:=List.length_eq_zero_iff.1 h0
   subst this;have hap:=tB (s:=⟨n0+1,n0,o0.set n0 (bA 0 [])⟩) (k:=2) (by_:=16) (id:=n0) (by rw [Sto.get_mk (by omega)];exact Tr.get_set_same _ _ _);simp +contextual +decide (maxSteps:=1000000) only [↓ wP,wQ,tf,Nat.reduceAdd,wS,reduceCtorEq,aGb,hy,hap,List.length_nil,List.flatMap_nil,Sto.put_any];refine ⟨by rw [show n0.min n0=n0 from Nat.min_self n0];exact Nat.le_refl _,⟨Nat.le_succ _,fun id hid=>?_⟩,.inr (.inr ⟨n0,rfl,rfl,Tr.get_set_same _ _ _,Nat.lt_succ_self _,Nat.le_refl _⟩)⟩;have hid':id<n0:=hid;rw [Sto.get_mk (show id<n0+1 by omega),Sto.get_mk hid',Tr.get_set_ne _ _ (by omega),Tr.get_set_ne _ _ (by omega)]
  ·have hap:=wE (s:=⟨n0+1,n0,o0.set n0 (bA 0 [])⟩) (k:=2) (by_:=16) (id:=n0) (n:=xs.length) (new:=xs.flatMap AV.cells) (by rw [Sto.get_mk (by omega)];exact Tr.get_set_same _ _ _) h0 (by omega) hall
   simp +contextual +decide (maxSteps:=1000000) only [↓ wP,wQ,tf,Nat.reduceAdd,wS,reduceCtorEq,aGb,hy,hap,Sto.push_mk];refine ⟨⟨show n0<=n0+1+1 by omega,fun id hid=>?_⟩,.inr (.inl ⟨n0+1,0,rfl,fun e=>h0 (by rw [e];rfl),by rw [<-List.flatMap_def];exact Tr.get_set_same _ _ _,by show n0+1<n0+1+1;omega,by show n0<=n0+1;omega⟩)⟩;have hid':id<n0:=hid;rw [Sto.get_mk (show id<n0+1+1 by omega),Sto.get_mk hid',Tr.get_set_ne _ _ (by omega),Tr.get_set_ne _ _ (by omega)]
def RCI (args:List AV) (s:Sto) (res:CRes):Prop:=∃ a S v,args=[a]/\res=.ret v (some S)/\bL Tryz.prog 73 args s res/\Nat.min s.low s.n<=S.low/\Sim s S/\CapS 1 s.n v S.n S.o a.els
theorem HE {a:AV} (ha:eU a) (hlen:a.els.length<=1000) (s:Sto):∃ res,RCI [a] s res:=by
 obtain ⟨S,v,⟨h1,h2,h3⟩,h4⟩:=KW ha hlen s;refine ⟨_,a,_,v,rfl,rfl,h4,?_,⟨h2.1,fun id hid=>h2.2 id hid⟩,h3⟩;exact Nat.le_min.2 ⟨Nat.min_le_left _ _,Nat.le_trans (Nat.min_le_right _ _) h1⟩
def RCO (args:List AV) (s:Sto) (res:CRes):Prop:=∃ a S v,args=[a]/\res=.ret v (some S)/\bL Tryz.prog 74 args s res/\Nat.min s.low s.n<=S.low/\Sim s S/\CapS 2 s.n v S.n S.o a.els
theorem VZ {a:AV} (ha:TSl lB a) (hlen:a.els.length<=1000) (s:Sto):∃ res,RCO [a] s res:=by
 obtain ⟨S,v,⟨h1,h2,h3⟩,h4⟩:=KX ha hlen s;refine ⟨_,a,_,v,rfl,rfl,h4,?_,⟨h2.1,fun id hid=>h2.2 id hid⟩,h3⟩;exact Nat.le_min.2 ⟨Nat.min_le_left _ _,Nat.le_trans (Nat.min_le_right _ _) h1⟩
abbrev HF:List lY:=[wO 72 WT,wO 73 RCI,wO 74 RCO]
theorem aCa:∀ x∈HF,cR Tryz.prog x:=elist_cons (uS fun _ _ _ h=>by obtain ⟨_,_,_,_,_,h,_⟩:=h;exact h) (elist_cons (uS fun _ _ _ h=>by obtain ⟨_,_,_,_,_,h,_⟩:=h;exact h) (elist_cons (uS fun _ _ _ h=>by obtain ⟨_,_,_,_,_,h,_⟩:=h;exact h) aH))
theorem WA {a:AV} {s:Sto} (h:∃ res,RCI [a] s res):∃ S v,bJ HF 73 [a] s=some (.ret v (some S))/\Nat.min s.low s.n<=S.low/\Sim s S/\CapS 1 s.n v S.n S.o a.els:=by
 obtain ⟨_,⟨a',S,v,ea,rfl,_,h1,h2,h3⟩,he⟩:=qE (f:=73) (L:=[wO 74 RCO]) h;cases ea;exact ⟨S,v,by rw [HF,uT (by decide)];exact he,h1,h2,h3⟩
theorem aHb {a:AV} {s:Sto} (h:∃ res,RCO [a] s res):∃ S v,bJ HF 74 [a] s=some (.ret v (some S))/\Nat.min s.low s.n<=S.low/\Sim s S/\CapS 2 s.n v S.n S.o a.els:=by
 obtain ⟨_,⟨a',S,v,ea,rfl,_,h1,h2,h3⟩,he⟩:=qE (f:=74) (L:=[]) h;cases ea;exact ⟨S,v,by rw [HF,uT (by decide),uT (by decide)];exact he,h1,h2,h3⟩
theorem aHc {a:AV} {s:Sto} (h:∃ res,WT [a] s res):∃ S v,bJ HF 72 [a] s=some (.ret v (some S))/\Nat.min s.low s.n<=S.low/\Sim s S/\CapS 4 s.n v S.n S.o (a.els.map dG):=by
 obtain ⟨_,⟨a',S,v,ea,rfl,_,h1,h2,h3⟩,he⟩:=qE (f:=72) (L:=[wO 73 RCI,wO 74 RCO]) h;cases ea;exact ⟨S,v,he,h1,h2,CapS.acc h3⟩
theorem cT {n low n' low':Nat} {o o':Tr AObj} (h:Sim ⟨n,low,o⟩ ⟨n',low',o'⟩) {i:Nat} (hi:i<n):o'.get i=o.get i:=by
 have:=h.2 i hi;have h1:n<=n':=h.1
 rwa [Sto.get_mk (show i<n' by omega),Sto.get_mk hi]at this
theorem rN {n low n' low' m k:Nat} {o o':Tr AObj} (h:Sim ⟨n,low,o⟩ ⟨n',low',o'⟩) (hm:m<=n):nH (pZ m k) ⟨n,low,o⟩ ⟨n',low',o'⟩:=fun id hid=>h.2 id (Nat.lt_of_lt_of_le hid (Nat.le_trans (Nat.min_le_left _ _) hm))
def CpW (xo xt xu xi:List AV) (no:AV) (s S:Sto) (v:AV):Prop:=∃ a b c d h1 h2 h3,v=.agg [a,b,c,d,no]/\s.n<=h1/\h1<=h2/\h2<=h3/\h3<=S.n/\CapS 4 s.n a h1 S.o xo/\CapS 1 h1 b h2 S.o xt/\CapS 2 h2 c h3 S.o xu/\CapS 1 h3 d S.n S.o xi
set_option maxHeartbeats 8000000 in
theorem WB {os ts us is no:AV} (hw:WG os ts us is no) (hsm:SmW (wg os ts us is no)) (s:Sto):∃ S v,(s.n<=S.low/\Sim s S/\CpW (os.els.map dG) ts.els us.els is.els no s S v)/\bL Tryz.prog 55 [wg os ts us is no] s (.ret v (some {S with low:=Nat.min s.low S.low})):=by
 obtain ⟨⟨s1,s2⟩,s3,s4,s5⟩:=hsm;obtain ⟨c1,c2,c3,c4,c5⟩:=hw.cells;obtain ⟨h1,h2,h3,h4,h5⟩:=hw
 have u1:=fun {m:Nat}=>(dQ _ h1).1.mono (Nat.zero_le m)
 have u2:=fun {m:Nat}=>(aP _ h2).1.mono (Nat.zero_le m)
 have u3:=fun {m:Nat}=>(bV _ h3).1.mono (Nat.zero_le m)
 have u4:=fun {m:Nat}=>(aP _ h4).1.mono (Nat.zero_le m)
 have u5:=fun {m:Nat}=>(tu_int _ h5).1.mono (Nat.zero_le m)
 obtain ⟨n0,low0,o0⟩:=s;refine nQ (L:=HF) aCa (fun _=>([],[1000,pS (n0+1),15])) (by kernel_rfl) Tryz.func55 Tryz.ntmps55 Tryz.results55 rfl rfl ?_;obtain ⟨⟨n1,l1,o1⟩,a,e1,b1,m1,z1⟩:=aHc (LM h1 s1 s2 ⟨n0+1+1,n0,(o0.set n0 (bA 0 [os,ts,us,is,no])).set (n0+1) (bA 0 [.nils,.nils,.nils,.nils,.int .i64 0])⟩);obtain ⟨⟨n2,l2,o2⟩,b,e2,b2,m2,z2⟩:=WA (HE h2 s3 ⟨n1,l1,o1⟩);obtain ⟨⟨n3,l3,o3⟩,c,e3,b3,m3,z3⟩:=aHb (VZ h3 s4 ⟨n2,l2,o2⟩);obtain ⟨⟨n4,l4,o4⟩,d,e4,b4,m4,z4⟩:=WA (HE h4 s5 ⟨n3,l3,o3⟩);have y1:n0+1+1<=n1:=m1.1;have y2:n1<=n2:=m2.1;have y3:n2<=n3:=m3.1;have y4:n3<=n4:=m4.1
 have g0:o1.get n0=some (bA 0 [os,ts,us,is,no])/\o1.get (n0+1)=some (bA 0 [.nils,.nils,.nils,.nils,.int .i64 0]):=by
  rw [cT m1 (show n0<n0+1+1 by omega),cT m1 (show n0+1<n0+1+1 by omega)];exact ⟨by simp +decide only [↓ aB,aI,aC,ne_eq,bM],by simp +decide only [↓ aB,aI,aC,ne_eq,bM]⟩
 have g1:o2.get n0=some (bA 0 [os,ts,us,is,no])/\o2.get (n0+1)=some (bA 0 [.nils,.nils,.nils,.nils,.int .i64 0]):=by
  rw [cT m2 (show n0<n1 by omega),cT m2 (show n0+1<n1 by omega)];exact g0
 have g2:o3.get n0=some (bA 0 [os,ts,us,is,no])/\o3.get (n0+1)=some (bA 0 [.nils,.nils,.nils,.nils,.int .i64 0]):=by
  rw [cT m3 (show n0<n2 by omega),cT m3 (show n0+1<n2 by omega)];exact g1
 have g3:o4.get n0=some (bA 0 [os,ts,us,is,no])/\o4.get (n0+1)=some (bA 0 [.nils,.nils,.nils,.nils,.int .i64 0]):=by
  rw [cT m4 (show n0<n3 by omega),cT m4 (show n0+1<n3 by omega)];exact g2
 have f1:n0<n1/\n0+1<n1/\n0<n2/\n0+1<n2/\n0<n3/\n0+1<n3/\n0<n4/\n0+1<n4:=by omega
 have kp1:nH (pZ (n0+1+1) (n0+1)) ⟨n0+1+1,n0,(o0.set n0 (bA 0 [os,ts,us,is,no])).set (n0+1) (bA 0 [.nils,.nils,.nils,.nils,.int .i64 0])⟩ ⟨n1,l1,o1⟩:=rN m1 (Nat.le_refl _);have kp2:nH (pZ (n0+1+1) (n0+1)) ⟨n1,l1,o1⟩ ⟨n2,l2,o2⟩:=rN m2 y1;have kp3:nH (pZ (n0+1+1) (n0+1)) ⟨n2,l2,o2⟩ ⟨n3,l3,o3⟩:=rN m3 (by omega);have kp4:nH (pZ (n0+1+1) (n0+1)) ⟨n3,l3,o3⟩ ⟨n4,l4,o4⟩:=rN m4 (by omega);have x1:=z1.under
 have v1:UnderE n4 a/\UnderE n4 b/\UnderE n4 c/\UnderE n4 d:=⟨z1.under.mono (show n1<=n4 by omega),z2.under.mono (show n2<=n4 by omega),z3.under.mono (show n3<=n4 by omega),z4.under⟩
 have w1:=And.intro z1.cell (And.intro z2.cell (And.intro z3.cell z4.cell));unfold wg;generalize hLL:HF=LL at *;simp +contextual +decide (maxSteps:=1000000) only [↓ wP,wQ,tf,Nat.reduceAdd,wS,reduceCtorEq,c1,c2,c3,c4,c5,e1,e2,e3,e4,u1,u2,u3,u4,u5,g0,g1,g2,g3,f1,y1,y2,y3,y4,kp1,kp2,kp3,kp4,v1,w1,aFz,rP,HO,lN,bM,aW,Option.bind_some];have q1:n0<=l1:=Nat.le_trans (Nat.le_min.2 ⟨Nat.le_refl _,show n0<=n0+1+1 by omega⟩) b1;have q2:n0<=l2:=Nat.le_trans (Nat.le_min.2 ⟨q1,show n0<=n1 by omega⟩) b2;have q3:n0<=l3:=Nat.le_trans (Nat.le_min.2 ⟨q2,show n0<=n2 by omega⟩) b3;have q4:n0<=l4:=Nat.le_trans (Nat.le_min.2 ⟨q3,show n0<=n3 by omega⟩) b4;refine ⟨Nat.le_min.2 ⟨Nat.le_succ _,q4⟩,⟨show n0<=n4 by omega,fun id hid=>?_⟩,a,b,c,d,n1,n2,n3,rfl,show n0<=n1 by omega,y2,y3,y4,?_,?_,?_,?_⟩
 ·have hid':id<n0:=hid
  rw [Sto.get_mk (show id<n4 by omega),Sto.get_mk hid',Tr.get_set_ne _ _ (by omega),cT m4 (by omega),cT m3 (by omega),cT m2 (by omega),cT m1 (by omega),Tr.get_set_ne _ _ (by omega),Tr.get_set_ne _ _ (by omega)]
 ·refine (z1.keep (Nat.le_refl _) fun id ha hb=>?_).lo_mono (show n0<=n0+1+1 by omega)
  have ha':n0+1+1<=id:=ha;have hb':id<n1:=hb;rw [Tr.get_set_ne _ _ (by omega),cT m4 (by omega),cT m3 (by omega),cT m2 (by omega)]
 ·refine z2.keep (Nat.le_refl _) fun id ha hb=>?_
  have ha':n1<=id:=ha;have hb':id<n2:=hb;rw [Tr.get_set_ne _ _ (by omega),cT m4 (by omega),cT m3 (by omega)]
 ·refine z3.keep (Nat.le_refl _) fun id ha hb=>?_
  have ha':n2<=id:=ha;have hb':id<n3:=hb;rw [Tr.get_set_ne _ _ (by omega),cT m4 (by omega)]
 ·refine z4.keep (Nat.le_refl _) fun id ha hb=>?_
  have ha':n3<=id:=ha;rw [Tr.get_set_ne _ _ (by omega)]
def aKk (args:List AV) (s:Sto) (res:CRes):Prop:=∃ os ts us is no S v,args=[wg os ts us is no]/\res=.ret v (some S)/\bL Tryz.prog 55 args s res/\Sim s S/\CpW (os.els.map dG) ts.els us.els is.els no s S v
theorem RQ {os ts us is no:AV} (hw:WG os ts us is no) (hsm:SmW (wg os ts us is no)) (s:Sto):∃ res,aKk [wg os ts us is no] s res:=by
 obtain ⟨S,v,⟨_,h2,h3⟩,h4⟩:=WB hw hsm s;exact ⟨_,os,ts,us,is,no,_,v,rfl,rfl,h4,⟨h2.1,fun id hid=>h2.2 id hid⟩,h3⟩
def oK (f:Nat->Bool) (i m:Nat):Bool:=(List.range' i (m-i)).all f
theorem wB {f:Nat->Bool} {i m:Nat} (h:i<m):oK f i m=(f i&&oK f (i+1) m):=by
 rw [oK,show m-i=(m-(i+1))+1 by omega,List.range'_succ,List.all_cons,oK]
theorem HG {f:Nat->Bool} {m:Nat}:oK f m m=true:=by rw [oK,Nat.sub_self];rfl
theorem HH {f:Nat->Bool} {m:Nat}:oK f 0 m=true↔∀ i,i<m->f i=true:=by
 rw [oK,List.all_eq_true];constructor
 ·intro h i hi
  exact h i (by rw [List.mem_range'_1];omega)
 ·intro h i hi
  rw [List.mem_range'_1]at hi;exact h i (by omega)
def pl (xs:List AV) (i:Nat):Int:=((xs.getD i .top).fld 0).num
def kT (n:Nat) (xs:List AV) (i:Nat):Bool:=decide (0<=pl xs i)&&(decide (pl xs i<(n:Nat))&&(decide (i=0)||decide (pl xs (i-1)<pl xs i)))
def uB (w d:AV):Bool:=oK (kT (w.fld 0).els.length (d.fld 0).els) 0 (d.fld 0).els.length&&(decide (0<=(d.fld 4).num)&&decide ((d.fld 4).num<=((w.fld 3).els.length:Nat)))
abbrev PI:List AV->Option AV:=oU (fun w d=>oT w/\uD d) fun w d=>.bool (uB w d)
theorem xH {xs:List AV} {i:Nat} {n:Int} {a b c d:AV} (h:xs[i]?=some (.agg [.int .i64 n,a,b,c,d])):pl xs i=n:=by
 rw [pl,List.getD_eq_getElem?_getD,h];rfl
set_option maxHeartbeats 8000000 in
theorem fits_ok:Abs.Ok Tryz.prog 38 PI:=ok2 fun w d ⟨hw,hd⟩=>by
 have huw:=(tk_wd w hw).1;have hud:=(mM d hd).1;obtain ⟨os,ts,us,is,no,rfl,a1,a2,a3,a4,a5⟩:=hw;obtain ⟨c1,c2,c3,c4,c5⟩:=(show WG os ts us is no from ⟨a1,a2,a3,a4,a5⟩).cells;obtain ⟨ds,ns,tt,uu,_,rfl,h1,h2,h3,h4,u,rfl⟩:=hd;have d1:=(oL _ h1).2;have d2:=(dQ _ h2).2;have d3:=(aP _ h3).2;have d4:=(bV _ h4).2;obtain ⟨xo,ho,hox⟩:=a1;obtain ⟨xi,hi0,hix0⟩:=a4;obtain ⟨xd,hd,hdx⟩:=h1
 have hsp:uB (.agg [os,ts,us,is,no]) (.agg [ds,ns,tt,uu,.int .i64 u])=(oK (kT xo.length xd) 0 xd.length&&(decide (0<=u)&&decide (u<=(xi.length:Nat)))):=by
  rw [<-ho.els,<-hi0.els,<-hd.els];rfl
 generalize uB (.agg [os,ts,us,is,no]) (.agg [ds,ns,tt,uu,.int .i64 u])=W at *
 have st1:=fun {Y:Nat->Prop}=>ho.stab (Y:=Y)
 have st2:=fun {Y:Nat->Prop}=>hi0.stab (Y:=Y)
 have st3:=fun {Y:Nat->Prop}=>hd.stab (Y:=Y)
 refine aG (L:=[]) aH aM (by kernel_rfl) Tryz.func38 Tryz.ntmps38 Tryz.results38 rfl rfl (aA huw.und (aA hud.und aF)) aJ ?_;simp +contextual +decide (maxSteps:=1000000) only [↓ wP,wQ,tf,Nat.reduceAdd,wS,reduceCtorEq,c1,c2,c3,c4,c5,d1,d2,d3,d4,hd.len];refine aR (fun i e=>∃ t n low o,e=⟨56,none,38,t,[],⟨n,low,o⟩,.no⟩/\t.val 2=.ptr 0 0 0/\t.val 3=.ptr 1 0 0/\t.val 8=ds/\t.val 9=.int .i64 (xd.length:Nat)/\t.val 10=.int .i64 (i:Nat)/\o.get 0=some (bA 0 [os,ts,us,is,no])/\o.get 1=some (bA 0 [ds,ns,tt,uu,.int .i64 u])/\2<=n/\i<=xd.length/\W=(oK (kT xo.length xd) i xd.length&&(decide (0<=u)&&decide (u<=(xi.length:Nat))))) (fun i=>xd.length-i) 0 ⟨_,_,_,_,rfl,by simp +decide only [↓ aB,aE,aC],by simp +decide only [↓ aB,aE,aC],by simp +decide only [↓ aB,aE,aC],by simp +decide only [↓ aB,aE,aC],by simp +decide only [↓ aB,aE,aC];rfl,by simp +decide only [↓ aB,aI,aC,ne_eq],by simp +decide only [↓ aB,aI,aC,ne_eq],by omega,Nat.zero_le _,hsp⟩ ?_;rintro i _ ⟨t,n,low,o,rfl,t2,t3,t8,t9,t10,g0,g1,hn,hi,hq⟩;have f0:=cZ (show 0<n by omega);have f1:=cZ (show 1<n by omega)
 rcases Nat.lt_or_ge i xd.length with hlt | hge
 ·obtain ⟨x,hDx,hm,hg,hde,hix,hw,k5⟩:=bB (fun x h=>tk_dob.len h) hdx hd.2 hlt
  have hpx:=fun {d:Option AV}=>tk_dob.pf hDx (d:=d)
  rw [wB hlt]at hq;obtain ⟨_,_,_,va,fr,rfl,⟨n1,rfl⟩,⟨n2,rfl⟩,⟨n3,rfl⟩,hva,hfr⟩:=hDx;have cv:=(aO _ hva).2;have cf:=(bR _ hfr).2
  have w1:=fun {n:Nat}=>(aO _ hva).1.mono (Nat.zero_le n)
  have w2:=fun {n:Nat}=>(bR _ hfr).1.mono (Nat.zero_le n)
  rw [kT,xH hg]at hq;by_cases j1:0<=n1
  rotate_left
  ·have j1':(n1<0)=True:=eq_true (by omega)
   rw [decide_eq_false j1,Bool.false_and,Bool.false_and]at hq;simp +contextual +decide (maxSteps:=1000000) only [↓ wP,wQ,tf,Nat.reduceAdd,wS,reduceCtorEq,t2,t3,t8,t9,t10,g0,g1,f0,f1,c1,c2,c3,c4,c5,d1,d2,d3,d4,hd.len,hd.idx,ho.len,hix,hpx,k5,bM,cv,cf,w1,w2,st1,st3,j1',hq]
  have j1':(n1<0)=False:=eq_false (by omega);rw [decide_eq_true j1,Bool.true_and]at hq;by_cases j2:n1<((xo.length:Nat):Int)
  rotate_left
  ·have j2':(n1 ≥ ((xo.length:Nat):Int))=True:=eq_true (by omega)
   rw [decide_eq_false j2,Bool.false_and,Bool.false_and]at hq;simp +contextual +decide (maxSteps:=1000000) only [↓ wP,wQ,tf,Nat.reduceAdd,wS,reduceCtorEq,t2,t3,t8,t9,t10,g0,g1,f0,f1,c1,c2,c3,c4,c5,d1,d2,d3,d4,hd.len,hd.idx,ho.len,hix,hpx,k5,bM,cv,cf,w1,w2,st1,st3,j1',j2',hq]
  have j2':(n1 ≥ ((xo.length:Nat):Int))=False:=eq_false (by omega);rw [decide_eq_true j2,Bool.true_and]at hq
  cases i with
  | zero=>
    rw [show decide (0=0)=true from rfl,Bool.true_or,Bool.true_and]at hq;simp +contextual +decide (maxSteps:=1000000) only [↓ wP,wQ,tf,Nat.reduceAdd,wS,reduceCtorEq,t2,t3,t8,t9,t10,g0,g1,f0,f1,c1,c2,c3,c4,c5,d1,d2,d3,d4,hd.len,hd.idx,ho.len,hix,hpx,k5,bM,cv,cf,w1,w2,st1,st3,j1',j2',hw];exact ⟨0+1,by show _-_<_-_;omega,_,_,_,_,rfl,by simp +decide only [↓ aB,aE,aC,t2],by simp +decide only [↓ aB,aE,aC,t3],by simp +decide only [↓ aB,aE,aC,t8],by simp +decide only [↓ aB,aE,aC,t9],by simp +decide only [↓ aB,aE,aC],by simp +decide only [↓ aB,aI,aC,ne_eq,g0,f0,bM],by simp +decide only [↓ aB,aI,aC,ne_eq,g1,f1,bM],by omega,hlt,hq⟩
  | succ j=>
    obtain ⟨x',hDx',hm',hg',hde',hix',hw',k6⟩:=bB (fun x h=>tk_dob.len h) hdx hd.2 (show j<xd.length by omega)
    have hpx':=fun {d:Option AV}=>tk_dob.pf hDx' (d:=d)
    obtain ⟨_,_,_,va',fr',rfl,⟨n1',rfl⟩,⟨n2',rfl⟩,⟨n3',rfl⟩,hva',hfr'⟩:=hDx';rw [show decide (j+1=0)=false from rfl,Bool.false_or,Nat.add_sub_cancel,xH hg']at hq;have hpos:(((j+1:Nat):Int) > 0)=True:=eq_true (by omega)
    have hsub:IntKind.i64.wrap (((j+1:Nat):Int)-1)=((j:Nat):Int):=by
     have:=hd.2;rw [show ((j+1:Nat):Int)-1=((j:Nat):Int) by omega];exact IntWalk.i64_in _ (by omega)
    by_cases j3:n1'<n1
    rotate_left
    ·have j3':(n1<=n1')=True:=eq_true (by omega)
     rw [decide_eq_false j3,Bool.false_and,Bool.false_and]at hq;simp +contextual +decide (maxSteps:=1000000) only [↓ wP,wQ,tf,Nat.reduceAdd,wS,reduceCtorEq,t2,t3,t8,t9,t10,g0,g1,f0,f1,c1,c2,c3,c4,c5,d1,d2,d3,d4,hd.len,hd.idx,ho.len,hix,hpx,k5,hix',hpx',k6,hpos,hsub,bM,cv,cf,w1,w2,st1,st3,j1',j2',j3',hq]
    have j3':(n1<=n1')=False:=eq_false (by omega);rw [decide_eq_true j3,Bool.true_and]at hq;simp +contextual +decide (maxSteps:=1000000) only [↓ wP,wQ,tf,Nat.reduceAdd,wS,reduceCtorEq,t2,t3,t8,t9,t10,g0,g1,f0,f1,c1,c2,c3,c4,c5,d1,d2,d3,d4,hd.len,hd.idx,ho.len,hix,hpx,k5,hix',hpx',k6,hpos,hsub,bM,cv,cf,w1,w2,st1,st3,j1',j2',j3',hw];exact ⟨j+1+1,by show _-_<_-_;omega,_,_,_,_,rfl,by simp +decide only [↓ aB,aE,aC,t2],by simp +decide only [↓ aB,aE,aC,t3],by simp +decide only [↓ aB,aE,aC,t8],by simp +decide only [↓ aB,aE,aC,t9],by simp +decide only [↓ aB,aE,aC],by simp +decide only [↓ aB,aI,aC,ne_eq,g0,f0,bM],by simp +decide only [↓ aB,aI,aC,ne_eq,g1,f1,bM],by omega,hlt,hq⟩
 ·obtain rfl:i=xd.length:=Nat.le_antisymm hi hge
  rw [HG,Bool.true_and]at hq;by_cases j1:0<=u
  rotate_left
  ·have j1':(u ≥ 0)=False:=eq_false (by omega)
   rw [decide_eq_false j1,Bool.false_and]at hq;simp +contextual +decide (maxSteps:=1000000) only [↓ wP,wQ,tf,Nat.reduceAdd,wS,reduceCtorEq,t2,t3,t8,t9,t10,g0,g1,f0,f1,c1,c2,c3,c4,c5,d1,d2,d3,d4,hd.len,aS,hi0.len,st2,j1',hq]
  have j1':(u ≥ 0)=True:=eq_true (by omega);rw [decide_eq_true j1,Bool.true_and]at hq;simp +contextual +decide (maxSteps:=1000000) only [↓ wP,wQ,tf,Nat.reduceAdd,wS,reduceCtorEq,t2,t3,t8,t9,t10,g0,g1,f0,f1,c1,c2,c3,c4,c5,d1,d2,d3,d4,hd.len,aS,hi0.len,st2,j1',hq]
def mL (d:AV):Bool:=decide ((d.fld 0).els.length<=130)&&(decide ((d.fld 1).els.length<=130)&&(eY ((d.fld 0).els.map iP) (d.fld 2).els (d.fld 3).els []&&eY (d.fld 1).els [] [] []))
abbrev yI:List AV->Option AV:=qR uD fun d=>.bool (mL d)
theorem sW:Sl .nils []:=⟨.inl ⟨rfl,rfl⟩,by simp⟩
theorem PJ {a b c:AV} (ha:TSl nC a) (hb:eU b) (hc:TSl lB c):oT (.agg [a,b,c,.nils,.int .i64 0]):=⟨_,_,_,_,_,rfl,ha,hb,hc,⟨[],sW,by simp⟩,_,rfl⟩
def wsB (a:AV):Bool:=eY (a.fld 0).els (a.fld 1).els (a.fld 2).els (a.fld 3).els
def WC (W:AV) (args:List AV) (s:Sto):Prop:=∃ a,args=[a]/\(oT a∨(¬ oT a/\Frz s 0 a W))
def gSm (W:AV):List AV->AV
 | [a]=>@ite _ (oT a) (Classical.propDecidable _) (.bool (wsB a)) (.bool (wsB W))
 | _=>.top
theorem WD {W:AV} (hW:oT W):∀ args s,WC W args s->bL Tryz.prog 21 args s (.ret (gSm W args) none):=fun args s ⟨a,e,h⟩=>by
 subst e
 rcases h with h | ⟨h,hf⟩
 ·rw [gSm,if_pos h]
  exact eI (smallWV_ok _ _ (cA h)) dB ⟨.und _ (tk_wd a h).1.und,trivial⟩
 ·rw [gSm,if_neg h]
  exact eI (smallWV_ok _ _ (cA hW)) dB ⟨hf,trivial⟩
theorem PK {id g l:Nat} {c:ACap} {b d e f:AV} {k:Nat}:¬ oT (.agg [.sl id g k l c,b,d,e,f]):=fun ⟨_,_,_,_,_,h,⟨_,hs,_⟩,_⟩=>by
 cases h
 rcases hs.1 with ⟨h,_⟩ | ⟨_,h⟩<;>cases h
theorem mZ {x:AV} (h:RU x):nC (iP x):=by
 obtain ⟨_,_,_,_,_,rfl,_,h1,h2,h3,h4⟩:=h;exact ⟨_,_,_,_,rfl,h1,h2,h3,h4⟩
set_option maxHeartbeats 8000000 in
theorem smallD_ok:Abs.Ok Tryz.prog 13 yI:=vY fun d hd=>by
 have hud:=(mM d hd).1;obtain ⟨ds,ns,tt,uu,_,rfl,h1,h2,h3,h4,u,rfl⟩:=hd;have d1:=(oL _ h1).2;have d2:=(dQ _ h2).2;have d3:=(aP _ h3).2;have d4:=(bV _ h4).2;have h2':=h2;obtain ⟨xd,hd,hdx⟩:=h1;obtain ⟨xn,hw0,hnx⟩:=h2;have hl:=hd.2
 have hlx:((xd.map iP).length)<=9223372036854775807:=by rw [List.length_map];omega
 have hall:∀ x∈xd.map iP,nC x:=fun x hx=>by
  obtain ⟨y,hy,rfl⟩:=List.mem_map.1 hx;exact mZ (hdx y hy)
 have hW:oT (.agg [bX (xd.map iP),tt,uu,.nils,.int .i64 0]):=PJ ⟨_,lR hlx,hall⟩ h3 h4;have hW2:oT (.agg [ns,.nils,.nils,.nils,.int .i64 0]):=PJ h2' ⟨[],sW,by simp⟩ ⟨[],sW,by simp⟩
 have hsp:mL (.agg [ds,ns,tt,uu,.int .i64 u])=(decide (xd.length<=130)&&(decide (xn.length<=130)&&(wsB (.agg [bX (xd.map iP),tt,uu,.nils,.int .i64 0])&&wsB (.agg [ns,.nils,.nils,.nils,.int .i64 0])))):=by
  rw [mL,wsB,wsB,show ((AV.agg [bX (xd.map iP),tt,uu,.nils,.int .i64 0]).fld 0).els=xd.map iP from nO ..,<-hd.els,<-hw0.els];rfl
 generalize mL (.agg [ds,ns,tt,uu,.int .i64 u])=R at *
 obtain ⟨W,hWe⟩:∃ W,W=AV.agg [bX (xd.map iP),tt,uu,.nils,.int .i64 0]:=⟨_,rfl⟩
 rw [<-hWe]at hW hsp
 have st1:=fun {Y:Nat->Prop}=>hd.stab (Y:=Y)
 have st2:=fun {Y:Nat->Prop}=>hw0.stab (Y:=Y)
 have he2:∀ {s:Sto},bJ [entB 21 (WC W) (gSm W)] 21 [.agg [ns,.nils,.nils,.nils,.int .i64 0]] s=some (.ret (.bool (wsB (.agg [ns,.nils,.nils,.nils,.int .i64 0]))) none):=fun {s}=>by
  rw [bO ⟨_,rfl,.inl hW2⟩,gSm,if_pos hW2]
 have he1:∀ {v:AV} {n low:Nat} {o:Tr AObj},AccM 4 1 v n o ((xd.map iP).map AV.cells)->bJ [entB 21 (WC W) (gSm W)] 21 [.agg [v,tt,uu,.nils,.int .i64 0]] ⟨n,low,o⟩=some (.ret (.bool (wsB W)) none):=fun {v n low o} hacc=>by
  have hfz:Frz ⟨n,low,o⟩ 0 (.agg [v,tt,uu,.nils,.int .i64 0]) W:=by
   rw [hWe];exact .agg _ _ rfl (bI (VO tk_ob hall hacc (Nat.zero_le _)) (bI (.und _ (aP _ h3).1.und) (bI (.und _ (bV _ h4).1.und) (bI (.und _ iY) (bI (.und _ aV) kF)))))
  rcases hacc with ⟨hL,rfl⟩ | ⟨hL,id,g,rfl,hid,hidn,hlo⟩
  ·have hT:oT (.agg [.nils,tt,uu,.nils,.int .i64 0]):=PJ ⟨[],sW,by simp⟩ h3 h4
   rw [bO ⟨_,rfl,.inl hT⟩,gSm,if_pos hT,hWe];have:xd.map iP=[]:=List.map_eq_nil_iff.1 hL;rw [this];rfl
  ·rw [bO ⟨_,rfl,.inr ⟨PK,hfz⟩⟩,gSm,if_neg PK]
 generalize wsB (.agg [ns,.nils,.nils,.nils,.int .i64 0])=K2 at *;generalize wsB W=K1 at *;refine aG (L:=[entB 21 (WC W) (gSm W)]) (elist_cons (entB_ok (WD hW)) aH) aM (by kernel_rfl) Tryz.func13 Tryz.ntmps13 Tryz.results13 rfl rfl (aA hud.und aF) aJ ?_;generalize [entB 21 (WC W) (gSm W)]=LL at *;simp +contextual +decide (maxSteps:=1000000) only [↓ wP,wQ,tf,Nat.reduceAdd,wS,reduceCtorEq,d1,d2,d3,d4,hd.len]
 refine aR (fun i e=>∃ t n low o v,e=⟨50,none,13,t,[],⟨n,low,o⟩,.no⟩/\t.val 1=.ptr 0 0 0/\t.val 3=v/\t.val 4=.int .i64 (i:Nat)/\o.get 0=some (bA 0 [ds,ns,tt,uu,.int .i64 u])/\0<n/\i<=xd.length/\i<=140/\AccM 4 1 v n o (((xd.take i).map iP).map AV.cells)) (fun i=>xd.length-i) 0
  ⟨_,_,_,_,_,rfl,by simp +decide only [↓ aB,aE,aC],by simp +decide only [↓ aB,aE,aC],by simp +decide only [↓ aB,aE,aC];rfl,by simp +decide only [↓ aB,aI,aC,ne_eq],by omega,Nat.zero_le _,Nat.zero_le _,.inl ⟨rfl,rfl⟩⟩ ?_
 rintro i _ ⟨t,n,low,o,v,rfl,t1,t3,t4,g0,hn,hi,hi4,hacc⟩;have f0:=cZ hn
 rcases Nat.lt_or_ge i xd.length with hlt | hge
 rotate_left
 ·obtain rfl:i=xd.length:=Nat.le_antisymm hi hge
  rw [List.take_length]at hacc;have he1':=he1 (low:=low) hacc
  have hvc:v.isCell=true:=by rcases hacc with ⟨_,rfl⟩ | ⟨_,_,_,rfl,_⟩<;>rfl
  by_cases j1:xd.length<=130
  rotate_left
  ·have j1':(((xd.length:Nat):Int)<=130)=False:=eq_false (by omega)
   rw [decide_eq_false j1,Bool.false_and]at hsp;simp +contextual +decide (maxSteps:=1000000) only [↓ wP,wQ,tf,Nat.reduceAdd,wS,reduceCtorEq,t1,t3,t4,g0,f0,aS,d1,d2,d3,d4,hd.len,hw0.len,st1,st2,j1',hsp]
  have j1':(((xd.length:Nat):Int)<=130)=True:=eq_true (by omega);rw [decide_eq_true j1,Bool.true_and]at hsp;by_cases j2:xn.length<=130
  rotate_left
  ·have j2':(((xn.length:Nat):Int)<=130)=False:=eq_false (by omega)
   rw [decide_eq_false j2,Bool.false_and]at hsp;simp +contextual +decide (maxSteps:=1000000) only [↓ wP,wQ,tf,Nat.reduceAdd,wS,reduceCtorEq,t1,t3,t4,g0,f0,aS,d1,d2,d3,d4,hd.len,hw0.len,st1,st2,j1',j2',hsp]
  have j2':(((xn.length:Nat):Int)<=130)=True:=eq_true (by omega);rw [decide_eq_true j2,Bool.true_and]at hsp
  cases K1 with
  | false=>simp +contextual +decide (maxSteps:=1000000) only [↓ wP,wQ,tf,Nat.reduceAdd,wS,reduceCtorEq,t1,t3,t4,g0,f0,aS,d1,d2,d3,d4,hd.len,hw0.len,st1,st2,j1',j2',hvc,he1',hsp]
  | true=>simp +contextual +decide (maxSteps:=1000000) only [↓ wP,wQ,tf,Nat.reduceAdd,wS,reduceCtorEq,t1,t3,t4,g0,f0,aS,d1,d2,d3,d4,hd.len,hw0.len,st1,st2,j1',j2',hvc,he1',he2,hsp]
 ·rcases Nat.lt_or_ge i 140 with h4i | h4i
  rotate_left
  ·have j0:(((i:Nat):Int)<140)=False:=eq_false (by omega)
   have j1:¬ xd.length<=130:=by omega
   have j1':(((xd.length:Nat):Int)<=130)=False:=eq_false (by omega);have j3:(((i:Nat):Int)<((xd.length:Nat):Int))=True:=eq_true (by omega);rw [decide_eq_false j1,Bool.false_and]at hsp;simp +contextual +decide (maxSteps:=1000000) only [↓ wP,wQ,tf,Nat.reduceAdd,wS,reduceCtorEq,t1,t3,t4,g0,f0,d1,d2,d3,d4,hd.len,hw0.len,st1,st2,j0,j1',j3,hsp]
  have j0:(((i:Nat):Int)<140)=True:=eq_true (by omega);obtain ⟨x,hDx,hm,hg,hde,hix,hw,hc⟩:=bB (fun x h=>tk_dob.len h) hdx hl hlt
  have hpf:=fun {d:Option AV}=>tk_dob.pf hDx (d:=d)
  have hrl:=iQ tk_ob (xs:=(xd.take i).map iP) fun x hx=>by
   obtain ⟨y,hy,rfl⟩:=List.mem_map.1 hx;exact mZ (hdx y (List.mem_of_mem_take hy))
  obtain ⟨_,_,_,va,fr,rfl,⟨n1,rfl⟩,⟨n2,rfl⟩,⟨n3,rfl⟩,hva,hfr⟩:=hDx;have cv:=(aO _ hva).2;have cf:=(bR _ hfr).2
  have htk:((xd.take (i+1)).map iP).map AV.cells=((xd.take i).map iP).map AV.cells++[[.int .i64 n2,.int .i64 n3,va,fr]]:=by rw [List.take_add_one,hg];simp [iP,AV.fld,AV.cells]
  have hsmall:(2*((((xd.take i).map iP).map AV.cells).length+1)+1024)*64<=281474976710656/\(((xd.take i).map iP).map AV.cells).length+1<4611686018427387904:=by simp;omega
  have hfl:(((xd.take i).map iP).map AV.cells).flatten.length=(((xd.take i).map iP).map AV.cells).length*4:=eW _ hrl;generalize ((xd.take i).map iP).map AV.cells=L at *
  rcases hacc with ⟨hL,rfl⟩ | ⟨hL,id,g,rfl,hid,hidn,hlo⟩
  ·simp +contextual +decide (maxSteps:=1000000) only [↓ wP,wQ,tf,Nat.reduceAdd,wS,reduceCtorEq,t1,t3,t4,g0,f0,d1,d2,d3,d4,hd.len,hd.idx,st1,hix,hc,hpf,cv,cf,j0,bM,hw,Nat.reduceMul]
   refine ⟨i+1,by show _-_<_-_;omega,_,_,_,_,.sl (n+1) 0 0 1 (.room 4),rfl,by simp +decide only [↓ aB,aE,aC,t1],by simp +decide only [↓ aB,aE,aC],by simp +decide only [↓ aB,aE,aC],by simp +decide only [↓ aB,aI,aC,ne_eq,g0,f0,bM],by omega,hlt,by omega,?_⟩;rw [htk,hL];refine AccM.new (g:=0) (m:=1) ?_ rfl (by simp) (by omega) (by omega);rw [show ∀ zs:List AV,(([]:List (List AV))++[zs]).flatten=zs from fun zs=>by simp]
   exact by simp +decide only [↓ aB,aI,aC,ne_eq,bM]
  ·have f3:=cZ hidn
   simp +contextual +decide (maxSteps:=1000000) only [↓ wP,wQ,tf,Nat.reduceAdd,wS,reduceCtorEq,t1,t3,t4,g0,f0,d1,d2,d3,d4,hd.len,hd.idx,st1,hix,hc,hpf,cv,cf,j0,bM,f3,hid,hsmall,hfl,hw,Nat.reduceMul,Nat.mul_one,Nat.zero_add];refine ⟨i+1,by show _-_<_-_;omega,_,_,_,_,.sl id (g+1) 0 (L.length+1) (.room 4),rfl,by simp +decide only [↓ aB,aE,aC,t1],by simp +decide only [↓ aB,aE,aC],by simp +decide only [↓ aB,aE,aC],by simp +decide only [↓ aB,aI,aC,ne_eq,g0,f0,f3,bM,show (0=id)=False from eq_false (by omega)],by omega,hlt,by omega,?_⟩;rw [htk];refine AccM.new (g:=g+1) ?_ (by simp) (by simp) (by omega) (by omega);rw [List.flatten_append,show ∀ zs:List AV,[zs].flatten=zs from fun zs=>by simp]
   exact by simp +decide only [↓ aB,aI,aC,ne_eq,bM,f3]
end
end Go.Proofs.YtifmdaalhclhgaaGreat
