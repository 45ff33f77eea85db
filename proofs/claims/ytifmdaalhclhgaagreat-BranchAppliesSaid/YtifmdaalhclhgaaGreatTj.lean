/-
  Branches: Apply of the program.
-/
import Derived.Test.YtifmdaalhclhgaaGreatTe
set_option linter.unusedVariables false
set_option linter.unusedSimpArgs false
namespace Go.Proofs.YtifmdaalhclhgaaGreat
open Go.Abs Go Go.Abs.TryzF
noncomputable section
set_option maxRecDepth 10000
def VS (xs:List AV):Nat:=if xs.length=0 then 0 else 1
theorem KV (xs:List AV):(xs.length=0/\VS xs=0)∨(xs.length≠0/\VS xs=1):=by
 by_cases h:xs.length=0
 ·exact .inl ⟨h,if_pos h⟩
 ·exact .inr ⟨h,if_neg h⟩
theorem tY {k lo n:Nat} {o:Tr AObj} {xs:List AV} (h:xs.length=0):CapS k lo .nils n o xs:=.inl ⟨List.length_eq_zero_iff.1 h,rfl⟩
theorem tZ {k lo n id:Nat} {o:Tr AObj} {xs:List AV} (h:xs.length≠0) (hg:o.get id=some (bA 0 (xs.map AV.cells).flatten)) (h1:id<n) (h2:lo<=id):CapS k lo (.sl id 0 0 xs.length (.room k)) n o xs:=.inr (.inl ⟨id,0,rfl,fun e=>h (by rw [e];rfl),hg,h1,h2⟩)
set_option maxHeartbeats 16000000 in
theorem RN {os ts us is no:AV} {xo xt xu xi:List AV} (s:Sto) (ho:ApY s 4 os xo) (ht:ApY s 1 ts xt) (hu:ApY s 2 us xu) (hi:ApY s 1 is xi) (hn:cM no) (lo:xo.length<=1000) (lt:xt.length<=1000) (lu:xu.length<=1000) (li:xi.length<=1000)
 (co:(xo.map AV.cells).flatten.all AV.isCell=true) (ct:(xt.map AV.cells).flatten.all AV.isCell=true) (cu:(xu.map AV.cells).flatten.all AV.isCell=true) (ci:(xi.map AV.cells).flatten.all AV.isCell=true):
 ∃ S v,(s.n<=S.low/\Sim s S/\CpW xo xt xu xi no s S v)/\bL Tryz.prog 78 [wg os ts us is no] s (.ret v (some {S with low:=Nat.min s.low S.low})):=by
 unfold CpW;obtain ⟨n0,low0,o0⟩:=s;refine nQ (L:=[]) aH (fun _=>([],[1000,pS (n0+1),15])) (by kernel_rfl) Tryz.func78 Tryz.ntmps78 Tryz.results78 rfl rfl ?_
 have a1:=fun {n low:Nat} {o:Tr AObj} (h:Old n0 o0 n o)=>ho.old (low:=low) h
 have a2:=fun {n low:Nat} {o:Tr AObj} (h:Old n0 o0 n o)=>ht.old (low:=low) h
 have a3:=fun {n low:Nat} {o:Tr AObj} (h:Old n0 o0 n o)=>hu.old (low:=low) h
 have a4:=fun {n low:Nat} {o:Tr AObj} (h:Old n0 o0 n o)=>hi.old (low:=low) h
 have c1:=ho.1;have c2:=ht.1;have c3:=hu.1;have c4:=hi.1;have u1:UnderE n0 os:=ho.2.1
 have v1:UnderE (n0+1+1) os/\UnderE (n0+1+1+1) os/\UnderE (n0+1+1+1+1) os/\UnderE (n0+1+1+1+1+1) os:=⟨u1.mono (by omega),u1.mono (by omega),u1.mono (by omega),u1.mono (by omega)⟩
 have u2:UnderE n0 ts:=ht.2.1
 have v2:UnderE (n0+1+1) ts/\UnderE (n0+1+1+1) ts/\UnderE (n0+1+1+1+1) ts/\UnderE (n0+1+1+1+1+1) ts:=⟨u2.mono (by omega),u2.mono (by omega),u2.mono (by omega),u2.mono (by omega)⟩
 have u3:UnderE n0 us:=hu.2.1
 have v3:UnderE (n0+1+1) us/\UnderE (n0+1+1+1) us/\UnderE (n0+1+1+1+1) us/\UnderE (n0+1+1+1+1+1) us:=⟨u3.mono (by omega),u3.mono (by omega),u3.mono (by omega),u3.mono (by omega)⟩
 have u4:UnderE n0 is:=hi.2.1
 have v4:UnderE (n0+1+1) is/\UnderE (n0+1+1+1) is/\UnderE (n0+1+1+1+1) is/\UnderE (n0+1+1+1+1+1) is:=⟨u4.mono (by omega),u4.mono (by omega),u4.mono (by omega),u4.mono (by omega)⟩
 have z1:=ho.2.2.2;have z2:=ht.2.2.2;have z3:=hu.2.2.2;have z4:=hi.2.2.2;clear ho ht hu hi;have c5:=(tu_int _ hn).2
 have u5:=fun {m:Nat}=>(tu_int _ hn).1.mono (Nat.zero_le m)
 unfold wg
 have lb:((2*xo.length+1024)*64<=281474976710656/\xo.length<4611686018427387904)/\((2*xt.length+1024)*8<=281474976710656/\xt.length<4611686018427387904)/\((2*xu.length+1024)*16<=281474976710656/\xu.length<4611686018427387904)/\((2*xi.length+1024)*8<=281474976710656/\xi.length<4611686018427387904):=by omega
 have hold:∀ {n low:Nat} {o:Tr AObj},Old n0 o0 n o->Sim ⟨n0,low0,o0⟩ ⟨n,low,o⟩:=fun h=>h.sim
 rcases KV xo with ⟨e1,j1⟩ | ⟨e1,j1⟩<;>rcases KV xt with ⟨e2,j2⟩ | ⟨e2,j2⟩<;>rcases KV xu with ⟨e3,j3⟩ | ⟨e3,j3⟩<;>by_cases e4:xi.length=0
 all_goals
  simp +contextual +decide (maxSteps:=1000000) only [↓ wP,wQ,tf,Nat.reduceAdd,wS,reduceCtorEq,c1,c2,c3,c4,c5,u1,u2,u3,u4,u5,v1,v2,v3,v4,aKv,a1,a2,a3,a4,co,ct,cu,ci,lb,aFz,rP,HO,lN,frM,CX,e1,e2,e3,e4,aW,Option.bind_some,Sto.push_mk]
  repeat (refine ⟨fun s' hs'=>(by
   have hz:∀ id,id<n0->s'.get id=(Sto.mk n0 low0 o0).get id:=fun id hid=>by
    rw [hs' id (by omega),Sto.get_mk hid]
    first | rw [Sto.get_mk (by omega)] | skip
    repeat rw [Tr.get_set_ne _ _ (by omega)]
   first | (rw [z1 e1 s' hz];rfl) | (rw [z2 e2 s' hz];rfl) | (rw [z3 e3 s' hz];rfl) | (rw [z4 e4 s' hz];rfl)),?_⟩)
  refine ⟨Nat.le_min.2 ⟨by omega,Nat.le_refl _⟩,hold ?_,_,_,_,_,n0+1+1+VS xo,n0+1+1+VS xo+VS xt,n0+1+1+VS xo+VS xt+VS xu,rfl,by omega,by omega,by omega,by omega,?_,?_,?_,?_⟩
  ·repeat (first | exact aCl.1 | refine aCl.2.1 ?_ | refine aCl.2.2.1 (by omega) ?_)
  ·first | exact tY e1 | exact tZ e1 (by simp +decide only [↓ aB,aI,aC,ne_eq,frM]) (by omega) (by omega)
  ·first | exact tY e2 | exact tZ e2 (by simp +decide only [↓ aB,aI,aC,ne_eq,frM]) (by omega) (by omega)
  ·first | exact tY e3 | exact tZ e3 (by simp +decide only [↓ aB,aI,aC,ne_eq,frM]) (by omega) (by omega)
  ·first | exact tY e4 | exact tZ e4 (by simp +decide only [↓ aB,aI,aC,ne_eq,frM]) (by omega) (by omega)
def aKe (args:List AV) (s:Sto) (res:CRes):Prop:=∃ os ts us is no S v,args=[wg os ts us is no]/\res=.ret v (some S)/\bL Tryz.prog 78 args s res/\Sim s S/\CpW os.els ts.els us.els is.els no s S v
theorem RO {os ts us is no:AV} (hw:WG os ts us is no) (hsm:SmW (wg os ts us is no)) (s:Sto):∃ res,aKe [wg os ts us is no] s res:=by
 obtain ⟨h1,h2,h3,h4,h5⟩:=hw;obtain ⟨⟨m1,m2⟩,m3,m4,m5⟩:=hsm;change os.els.length<=1000 at m1;change ts.els.length<=1000 at m3;change us.els.length<=1000 at m4;change is.els.length<=1000 at m5;have u1:=(dQ _ h1).1;have u2:=(aP _ h2).1;have u3:=(bV _ h3).1;have u4:=(aP _ h4).1;obtain ⟨xo,ho,hox⟩:=h1;obtain ⟨xt,ht,htx⟩:=h2;obtain ⟨xu,hu,hux⟩:=h3;obtain ⟨xi,hi0,hix0⟩:=h4;rw [ho.els]at m1;rw [ht.els]at m3;rw [hu.els]at m4;rw [hi0.els]at m5;have k1:=gC tk_ob hox;have k2:=oN tu_int htx;have k3:=gC tk_out hux;have k4:=oN tu_int hix0;obtain ⟨S,v,⟨_,h2,h3⟩,h4⟩:=RN s (ApY.sl ho u1 k1) (ApY.sl ht u2 k2) (ApY.sl hu u3 k3) (ApY.sl hi0 u4 k4) h5 m1 m3 m4 m5 (dA k1).1 (dA k2).1 (dA k3).1 (dA k4).1;refine ⟨_,os,ts,us,is,no,_,v,rfl,rfl,h4,⟨h2.1,fun id hid=>h2.2 id hid⟩,?_⟩;rw [ho.els,ht.els,hu.els,hi0.els];exact h3
abbrev DQ:List lY:=[wO 78 aKe]
theorem RP:∀ x∈DQ,cR Tryz.prog x:=elist_cons (uS fun _ _ _ h=>by obtain ⟨_,_,_,_,_,_,_,_,_,h,_⟩:=h;exact h) aH
theorem aKf {a b c d e x:AV}:bZ [a,b,c,d,e] 3 [x]=[a,b,c,x,e]/\bZ [a,b,c,d,e] 4 [x]=[a,b,c,d,x]:=⟨rfl,rfl⟩
theorem uA {xs:List AV} (h:∀ x∈xs,nC x):∀ x∈xs.map id,nC x:=fun x hx=>by rw [List.map_id]at hx;exact h x hx
set_option maxHeartbeats 16000000 in
theorem VX {os ts us is no d:AV} (hw:WG os ts us is no) (hsm:SmW (wg os ts us is no)) (hno:UsB no) (hd:uD d) (hsd:SmD d) (hf:uB (wg os ts us is no) d=true):∃ v,sV id (wg os ts us is no) d v/\Abs.Returns Tryz.prog 41 [wg os ts us is no,d] v:=by
 have huw:=(tk_wd _ hw.wd).1;have hud:=(mM d hd).1;have hsm0:=hsm;have hw0:=hw;obtain ⟨c1,c2,c3,c4,c5⟩:=hw.cells;obtain ⟨a1,a2,a3,a4,m,rfl⟩:=hw;obtain ⟨ds,ns,tt,uu,_,rfl,h1,h2,h3,h4,u,rfl⟩:=hd;have d1:=(oL _ h1).2;have d2:=(dQ _ h2).2;have d3:=(aP _ h3).2;have d4:=(bV _ h4).2
 have b3:=fun {n:Nat}=>(aP _ h3).1.mono (Nat.zero_le n)
 have b4:=fun {n:Nat}=>(bV _ h4).1.mono (Nat.zero_le n)
 obtain ⟨⟨m1,m2⟩,m3,m4,m5⟩:=hsm;obtain ⟨l1,l2,l3,l4,l5,l6⟩:=hsd;obtain ⟨no0,no1⟩:0<=m/\m<=1000000000:=hno;obtain ⟨xo,ho,hox⟩:=a1;obtain ⟨xt,ht,htx⟩:=a2;obtain ⟨xu,hu,hux⟩:=a3;obtain ⟨xi,hi0,hix0⟩:=a4;obtain ⟨xd,hds,hdx⟩:=h1;obtain ⟨xn,hns,hnx⟩:=h2;obtain ⟨yt,htt,httx⟩:=h3;obtain ⟨yu,huu,huux⟩:=h4
 have hfit:uB (wg os ts us is (.int .i64 m)) (.agg [ds,ns,tt,uu,.int .i64 u])=(oK (kT xo.length xd) 0 xd.length&&(decide (0<=u)&&decide (u<=(xi.length:Nat)))):=by
  rw [<-ho.els,<-hi0.els,<-hds.els];rfl
 rw [hfit,Bool.and_eq_true,Bool.and_eq_true,decide_eq_true_eq,decide_eq_true_eq,HH]at hf;obtain ⟨hf1,hf2,hf3⟩:=hf;clear hfit;change os.els.length<=1000 at m1;change ts.els.length<=1000 at m3;change us.els.length<=1000 at m4;change is.els.length<=1000 at m5;change ∀ x∈os.els,KR x at m2;change ds.els.length<=1000 at l1;change ns.els.length<=1000 at l2;change tt.els.length<=1000 at l3;change uu.els.length<=1000 at l4;change ∀ x∈ds.els,KR (iP x) at l5;rw [ho.els]at m1 m2;rw [ht.els]at m3;rw [hu.els]at m4;rw [hi0.els]at m5;rw [hds.els]at l1 l5;rw [hns.els]at l2;rw [htt.els]at l3;rw [huu.els]at l4
 have hq:∀ r:AV,(∃ a b c e,r=.agg [a,b,c,e,.int .i64 (m+u)]/\Sl a (kX id (xo.map id) xd xd.length++xn.map id)/\Sl b (xt++yt)/\Sl c (xu++yu)/\Sl e (xi.drop u.toNat))->sV id (wg os ts us is (.int .i64 m)) (.agg [ds,ns,tt,uu,.int .i64 u]) r:=fun r ⟨a,b,c,e,hr,r1,r2,r3,r4⟩=>by
  have hao:∀ x∈kX id (xo.map id) xd xd.length++xn.map id,nC x:=fun x hx=>by
   rcases List.mem_append.1 hx with hx | hx
   ·exact lL (T:=nC) (c:=id) (uA hox) (fun r hr=>mZ (hdx r hr)) (Nat.le_refl _) x hx
   ·exact uA hnx x hx
  have hat:∀ x∈xt++yt,cM x:=fun x hx=>(List.mem_append.1 hx).elim (htx x) (httx x)
  have hau:∀ x∈xu++yu,lB x:=fun x hx=>(List.mem_append.1 hx).elim (hux x) (huux x)
  subst hr;refine ⟨⟨_,_,_,_,_,rfl,⟨_,r1,hao⟩,⟨_,r2,hat⟩,⟨_,r3,hau⟩,⟨_,r4,fun x hx=>hix0 x (List.mem_of_mem_drop hx)⟩,_,rfl⟩,?_,?_,?_,?_,rfl⟩
  ·show a.els=kX id (os.els.map id) ds.els ds.els.length++ns.els.map id
   rw [r1.els,ho.els,hds.els,hns.els]
  ·show b.els=ts.els++tt.els
   rw [r2.els,ht.els,htt.els]
  ·show c.els=us.els++uu.els
   rw [r3.els,hu.els,huu.els]
  ·show e.els=is.els.drop u.toNat
   rw [r4.els,hi0.els]
 refine (xJ (Q:=fun r=>∃ a b c e,r=.agg [a,b,c,e,.int .i64 (m+u)]/\Sl a (kX id (xo.map id) xd xd.length++xn.map id)/\Sl b (xt++yt)/\Sl c (xu++yu)/\Sl e (xi.drop u.toNat)) (L:=DQ) RP aM (by kernel_rfl) Tryz.func41 Tryz.ntmps41 Tryz.results41 rfl rfl (aA huw.und (aA hud.und aF)) ?_).imp fun v h=>⟨hq v h.1,h.2⟩
 clear hq;obtain ⟨_,⟨os',ts',us',is',no',⟨n0,low0,o0⟩,v,ea,rfl,_,hsim,a,b,c,d,q1,q2,q3,rfl,y1,y2,y3,y4,z1,z2',z3,z4⟩,he⟩:=qE (f:=78) (L:=[]) (RO hw0 hsm0 ⟨3,0,((Tr.leaf.set 0 (bA 0 [os,ts,us,is,.int .i64 m])).set 1 (bA 0 [ds,ns,tt,uu,.int .i64 u])).set 2 (bA 0 [.nils,.nils,.nils,.nils,.int .i64 0])⟩);cases ea;change 3<=q1 at y1;change q3<=n0 at y4;change CapS 4 3 a q1 o0 os.els at z1;change CapS 1 q1 b q2 o0 ts.els at z2';change CapS 2 q2 c q3 o0 us.els at z3;change CapS 1 q3 d n0 o0 is.els at z4;rw [ho.els,<-List.map_id xo]at z1;rw [ht.els]at z2';rw [hu.els]at z3;rw [hi0.els]at z4
 have hg1:o0.get 1=some (bA 0 [ds,ns,tt,uu,.int .i64 u]):=by
  rw [cT hsim (show 1<3 by omega)];rfl
 have hg2:o0.get 2=some (bA 0 [.nils,.nils,.nils,.nils,.int .i64 0]):=by
  rw [cT hsim (show 2<3 by omega)];rfl
 have fq:=And.intro (sM (show 1<n0 by omega)) (sM (show 2<n0 by omega));have hcc:=And.intro z1.cell (And.intro z2'.cell (And.intro z3.cell z4.cell))
 have huc:(UnderE n0 a/\UnderE n0 b/\UnderE n0 c/\UnderE n0 d)/\(UnderE (n0+1) a/\UnderE (n0+1) b/\UnderE (n0+1) c/\UnderE (n0+1) d):=⟨⟨z1.under.mono (by omega),z2'.under.mono (by omega),z3.under.mono (by omega),z4.under.mono (by omega)⟩,⟨z1.under.mono (by omega),z2'.under.mono (by omega),z3.under.mono (by omega),z4.under.mono (by omega)⟩⟩
 have he':bJ DQ 78 [.agg [os,ts,us,is,.int .i64 m]] ⟨3,0,((Tr.leaf.set 0 (bA 0 [os,ts,us,is,.int .i64 m])).set 1 (bA 0 [ds,ns,tt,uu,.int .i64 u])).set 2 (bA 0 [.nils,.nils,.nils,.nils,.int .i64 0])⟩=_:=he;clear he;generalize DQ=LL at *;unfold wg;simp +contextual +decide (maxSteps:=1000000) only [↓ wP,wQ,tf,Nat.reduceAdd,wS,reduceCtorEq,c1,c2,c3,c4,c5,d1,d2,d3,d4,hds.len,he',hcc,huc,hg1,hg2,fq,bM]
 refine aR (fun i e=>∃ t n low o,e=⟨63,none,41,t,[],⟨n,low,o⟩,.no⟩/\t.val 3=.ptr 1 0 0/\t.val 4=.ptr 2 0 0/\t.val 5=.ptr n0 0 0/\t.val 6=.int .i64 (i:Nat)/\o.get 1=some (bA 0 [ds,ns,tt,uu,.int .i64 u])/\o.get 2=some (bA 0 [.nils,.nils,.nils,.nils,.int .i64 0])/\o.get n0=some (bA 0 [a,b,c,d,.int .i64 m])/\n0<n/\i<=xd.length/\CapR 4 (fun id=>3<=id/\id<q1) a n o (kX id (xo.map id) xd i)/\CapR 1 (fun id=>q1<=id/\id<q2) b n o xt/\CapR 2 (fun id=>q2<=id/\id<q3) c n o xu/\CapR 1 (fun id=>q3<=id/\id<n0) d n o xi) (fun i=>xd.length-i) 0
  ⟨_,_,_,_,rfl,by simp +decide only [↓ aB,aE,aC],by simp +decide only [↓ aB,aE,aC],by simp +decide only [↓ aB,aE,aC],by simp +decide only [↓ aB,aE,aC];rfl,by simp +decide only [↓ aB,aI,aC,ne_eq,hg1,hg2,fq,bM],by simp +decide only [↓ aB,aI,aC,ne_eq,hg1,hg2,fq,bM],by simp +decide only [↓ aB,aI,aC,ne_eq,bM],by omega,Nat.zero_le _,?_,?_,?_,?_⟩ ?_
 ·exact z1.capR.keep (show q1<=n0+1 by omega) fun id hX _=>by rw [Tr.get_set_ne _ _ (by omega),Tr.get_set_ne _ _ (by omega)]
 ·exact z2'.capR.keep (show q2<=n0+1 by omega) fun id hX _=>by rw [Tr.get_set_ne _ _ (by omega),Tr.get_set_ne _ _ (by omega)]
 ·exact z3.capR.keep (show q3<=n0+1 by omega) fun id hX _=>by rw [Tr.get_set_ne _ _ (by omega),Tr.get_set_ne _ _ (by omega)]
 ·exact z4.capR.keep (show n0<=n0+1 by omega) fun id hX _=>by rw [Tr.get_set_ne _ _ (by omega),Tr.get_set_ne _ _ (by omega)]
 clear he' hsim z1 z2' z3 z4 hg1 hg2 fq huc;rintro i _ ⟨t,n,low,o,rfl,t3,t4,t5,t6,g1,g2,gw,hn,hi,r1,r2,r3,r4⟩;have fq:=And.intro (sM (show 1<n by omega)) (And.intro (sM (show 2<n by omega)) (sM (show n0<n by omega)))
 have fw:1≠n0/\2≠n0/\n0≠1/\n0≠2:=by omega
 rcases Nat.lt_or_ge i xd.length with hlt | hge
 ·obtain ⟨x,hDx,hm,hg,hde,hix,hw,hc⟩:=bB (fun x h=>tk_dob.len h) hdx hds.2 hlt
  have hpf:=fun {d:Option AV}=>tk_dob.pf hDx (d:=d)
  have hfa:=hf1 i hlt;have hobx:=mZ hDx;have hsx:=l5 x hm;have hset:=lH (c:=id) (xs:=xo.map id) hg;have hal:=lL (c:=id) (xs:=xo.map id) (rows:=xd) (T:=nC) (uA hox) (fun r hr=>mZ (hdx r hr)) hi;have hln:=qC (c:=id) (xs:=xo.map id) hi;rw [List.length_map]at hln;obtain ⟨_,_,_,va,fr,rfl,⟨n1,rfl⟩,⟨n2,rfl⟩,⟨n3,rfl⟩,hva,hfr⟩:=hDx;rw [kT,xH hg,Bool.and_eq_true,Bool.and_eq_true,decide_eq_true_eq,decide_eq_true_eq]at hfa;obtain ⟨k0,k1,_⟩:=hfa;rw [show iP (.agg [.int .i64 n1,.int .i64 n2,.int .i64 n3,va,fr])=.agg [.int .i64 n2,.int .i64 n3,va,fr] from rfl]at *;rw [show ((AV.agg [.int .i64 n1,.int .i64 n2,.int .i64 n3,va,fr]).fld 0).num=n1 from rfl]at hset;change _=(kX id (xo.map id) xd i).set n1.toNat (.agg [.int .i64 n2,.int .i64 n3,va,fr]) at hset;have cv:=(aO _ hva).2;have cf:=(bR _ hfr).2
  have w1:=fun {n:Nat}=>(aO _ hva).1.mono (Nat.zero_le n)
  have w2:=fun {n:Nat}=>(bR _ hfr).1.mono (Nat.zero_le n)
  generalize kX id (xo.map id) xd i=Y at *
  rcases r1 with ⟨rfl,_⟩ | ⟨id,g,rfl,hid,hidn,hX⟩ | ⟨id,rfl,_⟩
  ·simp at hln;omega
  rotate_left
  ·simp at hln;omega
  have hrl:∀ x∈Y,x.cells.length=4:=fun x hx=>tk_ob.len (hal x hx)
  have hsp:bZ (Y.map AV.cells).flatten (n1.toNat*4) [.int .i64 n2,.int .i64 n3,va,fr]=((Y.set n1.toNat (.agg [.int .i64 n2,.int .i64 n3,va,fr])).map AV.cells).flatten:=PO hrl (show n1.toNat<Y.length by omega) (x:=.agg [.int .i64 n2,.int .i64 n3,va,fr]) rfl;have hfl:(Y.map AV.cells).flatten.length=Y.length*4:=(dA (gC tk_ob hal)).2
  have hbd:0+n1.toNat*4+4<=(Y.map AV.cells).flatten.length:=by rw [hfl];omega
  have hk1:n1<((Y.length:Nat):Int):=by omega
  have hls:∀ {a b c d e:AV},aX [a,b,c,d,e] 1 4=[b,c,d,e]:=rfl;have hfi:=And.intro (sM hidn) (show 1≠id/\2≠id/\id≠1/\id≠2/\id≠n0/\n0≠id by omega);simp +contextual +decide (maxSteps:=1000000) only [↓ wP,wQ,tf,Nat.reduceAdd,wS,reduceCtorEq,t3,t4,t5,t6,hls,hfi,g1,g2,gw,fq,fw,bM,hds.len,hds.idx,hix,hpf,cv,cf,w1,w2,hid,hidn,hk1,k0,hbd,hw,hc];rw [Nat.zero_add,hsp];refine ⟨i+1,by show _-_<_-_;omega,_,_,_,_,rfl,by simp +decide only [↓ aB,aE,aC,t3],by simp +decide only [↓ aB,aE,aC,t4],by simp +decide only [↓ aB,aE,aC,t5],by simp +decide only [↓ aB,aE,aC],by simp +decide only [↓ aB,aI,aC,ne_eq,g1,hfi,fq,fw],by simp +decide only [↓ aB,aI,aC,ne_eq,g2,hfi,fq,fw],by simp +decide only [↓ aB,aI,aC,ne_eq,gw,hfi,fq,fw],by omega,hlt,?_,?_,?_,?_⟩
  ·rw [hset]
   exact .inr (.inl ⟨id,g,by rw [List.length_set],Tr.get_set_same _ _ _,by omega,hX⟩)
  ·exact r2.keep (Nat.le_refl n) fun j hX' hj=>by rw [Tr.get_set_ne _ _ (by omega)]
  ·exact r3.keep (Nat.le_refl n) fun j hX' hj=>by rw [Tr.get_set_ne _ _ (by omega)]
  ·exact r4.keep (Nat.le_refl n) fun j hX' hj=>by rw [Tr.get_set_ne _ _ (by omega)]
 ·obtain rfl:i=xd.length:=Nat.le_antisymm hi hge
  have hal:=lL (c:=id) (xs:=xo.map id) (rows:=xd) (T:=nC) (uA hox) (fun r hr=>mZ (hdx r hr)) hi;have hln:=qC (c:=id) (xs:=xo.map id) hi;rw [List.length_map]at hln;have haL:=uA hnx
  have hlL:(xn.map id).length<=1000:=by rw [List.length_map];exact l2
  have hyL:=fun {s:Sto}=>vZ (s:=s) hns (gC tk_ob hnx)
  rw [<-List.map_id xn]at hyL
  have hyt:=fun {s:Sto}=>vZ (s:=s) htt (oN tu_int httx)
  have hyu:=fun {s:Sto}=>vZ (s:=s) huu (gC tk_out huux)
  generalize kX id (xo.map id) xd xd.length=Y at *;generalize xn.map id=Z at *;obtain ⟨a1,n1,lo1,o1,e1,s1,p1,p1',k1⟩:=r1.app (by_:=64) (low:=low) (gC tk_ob hal) (gC tk_ob haL) (by omega)
  have r2':=r2.keep (o':=o1.set n0 (bA 0 [a1,b,c,d,.int .i64 m])) p1 fun id hX hid=>by rw [Tr.get_set_ne _ _ (by omega),k1 id hid (by omega)]
  obtain ⟨b1,n2,lo2,o2,e2',s2,p2,p2',k2'⟩:=r2'.app (by_:=8) (low:=Nat.min n0 lo1) (oN tu_int htx) (oN tu_int httx) (by omega)
  have r3':=r3.keep (o':=o2.set n0 (bA 0 [a1,b1,c,d,.int .i64 m])) (Nat.le_trans p1 p2) fun id hX hid=>by rw [Tr.get_set_ne _ _ (by omega),k2' id (by omega) (by omega),Tr.get_set_ne _ _ (by omega),k1 id hid (by omega)]
  obtain ⟨c1',n3,lo3,o3,e3,s3,p3,p3',k3⟩:=r3'.app (by_:=16) (low:=Nat.min n0 lo2) (gC tk_out hux) (gC tk_out huux) (by omega);obtain ⟨d',hd',hd1,hd2,hd3⟩:=CN (P:=Tryz.prog) (ty:=23) (by kernel_rfl) r4 tu_int hix0 (by omega) hf2 hf3
  obtain ⟨⟨_,_,_⟩,hyd⟩:=hd3 n3 (Nat.min n0 lo3) (o3.set n0 (bA 0 [a1,b1,c1',d,.int .i64 m])) (by omega) fun id hX hid=>by rw [Tr.get_set_ne _ _ (by omega),k3 id (by omega) (by omega),Tr.get_set_ne _ _ (by omega),k2' id (by omega) (by omega),Tr.get_set_ne _ _ (by omega),k1 id hid (by omega)]
  have hdi:∀ x∈xi.drop u.toNat,cM x:=fun x hx=>hix0 x (List.mem_of_mem_drop hx)
  have hdl:(xi.drop u.toNat).length<=1000:=by rw [List.length_drop];omega
  obtain ⟨d1',n4,lo4,o4,e4,s4,p4,p4',k4⟩:=(show CapR 1 (fun _=>False) .nils n3 (o3.set n0 (bA 0 [a1,b1,c1',d,.int .i64 m])) [] from .inl ⟨rfl,rfl⟩).app (by_:=8) (low:=Nat.min n0 lo3) (ys:=xi.drop u.toNat) (fun x h=>absurd h List.not_mem_nil) (oN tu_int hdi) (by simp only [List.length_nil];omega);rw [List.nil_append]at s4
  have y1:o1.get 1=some (bA 0 [ds,ns,tt,uu,.int .i64 u])/\o1.get 2=some (bA 0 [.nils,.nils,.nils,.nils,.int .i64 0])/\o1.get n0=some (bA 0 [a,b,c,d,.int .i64 m]):=by
   rw [k1 1 (by omega) (by omega),k1 2 (by omega) (by omega),k1 n0 hn (by omega)];exact ⟨g1,g2,gw⟩
  have y2:o2.get 1=some (bA 0 [ds,ns,tt,uu,.int .i64 u])/\o2.get 2=some (bA 0 [.nils,.nils,.nils,.nils,.int .i64 0])/\o2.get n0=some (bA 0 [a1,b,c,d,.int .i64 m]):=by
   rw [k2' 1 (by omega) (by omega),k2' 2 (by omega) (by omega),k2' n0 (by omega) (by omega),Tr.get_set_ne _ _ (by omega),Tr.get_set_ne _ _ (by omega),Tr.get_set_same];exact ⟨y1.1,y1.2.1,rfl⟩
  have y3:o3.get 1=some (bA 0 [ds,ns,tt,uu,.int .i64 u])/\o3.get 2=some (bA 0 [.nils,.nils,.nils,.nils,.int .i64 0])/\o3.get n0=some (bA 0 [a1,b1,c,d,.int .i64 m]):=by
   rw [k3 1 (by omega) (by omega),k3 2 (by omega) (by omega),k3 n0 (by omega) (by omega),Tr.get_set_ne _ _ (by omega),Tr.get_set_ne _ _ (by omega),Tr.get_set_same];exact ⟨y2.1,y2.2.1,rfl⟩
  have y4:o4.get 1=some (bA 0 [ds,ns,tt,uu,.int .i64 u])/\o4.get 2=some (bA 0 [.nils,.nils,.nils,.nils,.int .i64 0])/\o4.get n0=some (bA 0 [a1,b1,c1',d,.int .i64 m]):=by
   rw [k4 1 (by omega) (fun h=>h),k4 2 (by omega) (fun h=>h),k4 n0 (by omega) (fun h=>h),Tr.get_set_ne _ _ (by omega),Tr.get_set_ne _ _ (by omega),Tr.get_set_same];exact ⟨y3.1,y3.2.1,rfl⟩
  have fz4:=And.intro (sM (show 1<n4 by omega)) (And.intro (sM (show 2<n4 by omega)) (sM (show n0<n4 by omega)));have fz:=And.intro (And.intro (sM (show 1<n1 by omega)) (And.intro (sM (show 2<n1 by omega)) (sM (show n0<n1 by omega)))) (And.intro (And.intro (sM (show 1<n2 by omega)) (And.intro (sM (show 2<n2 by omega)) (sM (show n0<n2 by omega)))) (And.intro (sM (show 1<n3 by omega)) (And.intro (sM (show 2<n3 by omega)) (sM (show n0<n3 by omega)))));have hwr:IntKind.i64.wrap (m+u)=m+u:=IntWalk.i64_in _ (by omega);have hcl:=And.intro s1.cell (And.intro s2.cell (And.intro s3.cell (And.intro hd1 s4.cell)));have hun:=And.intro r1.under s1.under
  have hfin:∀ {lo:Nat} {o':Tr AObj},(∀ id,id≠n0->id≠2->o'.get id=o4.get id)->∃ v,Frz ⟨n4,lo,o'⟩ 0 (.agg [a1,b1,c1',d1',.int .i64 (m+u)]) v/\∃ a b c e,v=.agg [a,b,c,e,.int .i64 (m+u)]/\Sl a (Y++Z)/\Sl b (xt++yt)/\Sl c (xu++yu)/\Sl e (xi.drop u.toNat):=fun {lo o'} h'=>by
   have t1:=s1.keep (n':=n4) (o':=o') (by omega) fun id hX hid=>by
    rw [h' id (by omega) (by omega),k4 id (by omega) (fun h=>h),Tr.get_set_ne _ _ (by omega),k3 id (by omega) (by omega),Tr.get_set_ne _ _ (by omega),k2' id (by omega) (by omega),Tr.get_set_ne _ _ (by omega)]
   have t2:=s2.keep (n':=n4) (o':=o') (by omega) fun id hX hid=>by
    rw [h' id (by omega) (by omega),k4 id (by omega) (fun h=>h),Tr.get_set_ne _ _ (by omega),k3 id (by omega) (by omega),Tr.get_set_ne _ _ (by omega)]
   have t3:=s3.keep (n':=n4) (o':=o') (by omega) fun id hX hid=>by
    rw [h' id (by omega) (by omega),k4 id (by omega) (fun h=>h),Tr.get_set_ne _ _ (by omega)]
   have t4:=s4.keep (n':=n4) (o':=o') (by omega) fun id hX hid=>by
    have hX':id=n3:=hX.resolve_left fun h=>h
    exact h' id (by omega) (by omega)
   obtain ⟨ra,sa,fa⟩:=rM (low:=lo) t1 tk_ob (fun x hx=>(List.mem_append.1 hx).elim (hal x) (haL x)) (by rw [List.length_append];omega);obtain ⟨rb,sb,fb⟩:=wA (low:=lo) t2 tu_int (fun x hx=>(List.mem_append.1 hx).elim (htx x) (httx x)) (by rw [List.length_append];omega);obtain ⟨rc,sc,fc⟩:=rM (low:=lo) t3 tk_out (fun x hx=>(List.mem_append.1 hx).elim (hux x) (huux x)) (by rw [List.length_append];omega);obtain ⟨rd,sd,fd⟩:=wA (low:=lo) t4 tu_int hdi (by omega);exact ⟨.agg [ra,rb,rc,rd,.int .i64 (m+u)],.agg _ _ rfl (bI fa (bI fb (bI fc (bI fd (bI (.und _ aV) kF))))),ra,rb,rc,rd,rfl,sa,sb,sc,sd⟩
  clear s1 s2 s3 s4 r1 r2 r3 r4 r2' r3' hd3 k1 k2' k3 k4
  rcases e1 with ⟨e1,rfl,rfl,rfl⟩ | e1<;>rcases e2' with ⟨e2',rfl,rfl,rfl⟩ | e2'<;>rcases e3 with ⟨e3,rfl,rfl,rfl⟩ | e3<;>rcases e4 with ⟨e4,rfl,rfl,rfl⟩ | e4
  all_goals
   simp +contextual +decide (maxSteps:=1000000) only [↓ wP,wQ,tf,Nat.reduceAdd,wS,reduceCtorEq,t3,t4,t5,t6,aS,g1,g2,gw,y1,y2,y3,fz,fq,fw,hds.len,hyL,hyt,hyu,hyd,e1,e2',e3,e4,hd',y4,fz4,hwr,hcl,hun,b3,b4,p1,p2,p3,aKh,aKf,d2,d3,d4,aW,Option.bind_some]
  all_goals refine ⟨rfl,_,rfl,?_⟩
  all_goals
   simp +contextual +decide (maxSteps:=1000000) only [↓ wP,wQ,tf,Nat.reduceAdd,wS,reduceCtorEq,t4,g1,g2,gw,y1,y2,y3,y4,fz4,fz,fq,fw,d2,d3,d4,hcl,aKf,aW,Option.bind_some]
  all_goals exact hfin fun id j1 j2=>by repeat rw [Tr.get_set_ne _ _ (by omega)]
end
end Go.Proofs.YtifmdaalhclhgaaGreat
namespace Go.Proofs.YtifmdaalhclhgaaGreat
open Go.Abs Go Go.Abs.TryzF
noncomputable section
set_option maxRecDepth 10000
def zW:AV:=.agg [.nils,.nils,.nils,.nils,.int .i64 0]
theorem mY:oT zW:=PJ ⟨[],sW,by simp⟩ ⟨[],sW,by simp⟩ ⟨[],sW,by simp⟩
theorem und_zW:UnderE 0 zW:=(tk_wd _ mY).1
def VU (c:AV->AV) (A:AV->Bool) (k:Bool) (b d r:AV):Prop:=∃ v e,r=.tuple [v,.int .i64 e]/\oT v/\(k=false->e=2/\v=zW)/\(k=true->∃ w,sV c b d w/\(A w=false->e=7/\v=zW)/\(A w=true->e=0/\v=w))
theorem twl {w:AV} (h:oT w):∀ x∈[w],oT x:=fun x hx=>by simp at hx;subst hx;exact h
theorem VV {p b:AV} (h:KZ p [b]=true):kV p=true/\iO p b=true:=by
 simp only [KZ,List.all_cons,List.all_nil,Bool.and_eq_true]at h;exact ⟨h.1.1,h.1.2⟩
section
variable {p os ts us is no d:AV}
set_option maxHeartbeats 8000000 in
theorem RI (hp:fL p) (hb:WG os ts us is no) (hsm:SmW (wg os ts us is no)) (hd:uD d) (hsd:SmD d):∃ r,VU dG (fun w=>iO p w&&dO (wg os ts us is no) w) (KZ p [wg os ts us is no]&&uB (wg os ts us is no) d) (wg os ts us is no) d r/\Abs.Returns Tryz.prog 14 [p,wg os ts us is no,d] r:=by
 have hup:=(dK p hp).1;have hub:=(tk_wd _ hb.wd).1;have hud:=(mM d hd).1;have huu:=aA hup.und (aA hub.und (aA hud.und aF));have hB:=wD LA hup (twl hb.wd) (v:=gO (KZ p [wg os ts us is no])) (sg2_eq ⟨hp,aHe (twl hb.wd) (by simp)⟩) RS;have hfv:PI [wg os ts us is no,d]=some (.bool (uB (wg os ts us is no) d)):=sg2_eq ⟨hb.wd,hd⟩;obtain ⟨c1,c2,c3,c4,c5⟩:=hb.cells;obtain ⟨_,zs,hde,hzl,hzc⟩:=mM _ hd
 have hz:0+5<=zs.length:=by omega
 have hcell:∃ ns fs mm cs,p=.agg [ns,fs,mm,cs]/\ns.isCell=true/\fs.isCell=true/\mm.isCell=true/\cs.isCell=true:=by
  obtain ⟨ns,fs,mm,cs,e,a1,a2,a3,a4⟩:=hp;exact ⟨ns,fs,mm,cs,e,(dH _ a1).2,(aP _ a2).2,(tu_int _ a3).2,(dJ _ a4).2⟩
 have he:∀ {E:AV} {T:List lY} {s:Sto},s.get 4=some (bA 0 [os,ts,us,is,no])->bJ (entB 29 (lM p [wg os ts us is no]) (fun _=>E)::T) 29 [p,.sl 4 0 0 1 (.is 1)] s=some (.ret E none):=fun {E T s} hs=>bO ⟨4,.is 1,rfl,hs⟩
 have huz:∀ {e:Int},Und 0 (AV.tuple [zW,.int .i64 e]):=fun {e}=>nY (aA und_zW.und (aA aV aF))
 cases k:KZ p [wg os ts us is no] with
 | false=>
   rw [k]at hB;refine ⟨_,⟨zW,2,rfl,mY,fun _=>⟨rfl,rfl⟩,fun h=>nomatch h⟩,?_⟩;refine aG (L:=[entB 29 (lM p [wg os ts us is no]) (fun _=>gO false)]) (elist_cons (entB_ok hB) aH) aM (by kernel_rfl) Tryz.func14 Tryz.ntmps14 Tryz.results14 rfl rfl huu huz ?_;obtain ⟨ns,fs,mm,cs,rfl,q1,q2,q3,q4⟩:=hcell;unfold wg at he ⊢;subst hde;simp +contextual +decide (maxSteps:=1000000) only [↓ wP,wQ,tf,Nat.reduceAdd,wS,reduceCtorEq,c1,c2,c3,c4,c5,q1,q2,q3,q4,hzl,hzc,hz,bE hzl,he,gO,Nat.reduceMul,zW,aW,Option.bind_some]
 | true=>
 rw [k]at hB;rw [Bool.true_and]
 cases k2:uB (wg os ts us is no) d with
 | false=>
   rw [k2]at hfv;refine ⟨_,⟨zW,2,rfl,mY,fun _=>⟨rfl,rfl⟩,fun h=>nomatch h⟩,?_⟩;refine aG (L:=[ent 38 PI,entB 29 (lM p [wg os ts us is no]) (fun _=>gO true)]) (elist_cons fits_ok.ent (elist_cons (entB_ok hB) aH)) aM (by kernel_rfl) Tryz.func14 Tryz.ntmps14 Tryz.results14 rfl rfl huu huz ?_;obtain ⟨ns,fs,mm,cs,rfl,q1,q2,q3,q4⟩:=hcell;unfold wg at he hfv ⊢;subst hde;simp +contextual +decide (maxSteps:=1000000) only [↓ wP,wQ,tf,Nat.reduceAdd,wS,reduceCtorEq,c1,c2,c3,c4,c5,q1,q2,q3,q4,hzl,hzc,hz,bE hzl,he,hfv,gO,Nat.reduceMul,zW,aW,Option.bind_some]
 | true=>
 rw [k2]at hfv;obtain ⟨hpr,hbw⟩:=VV k;have hub':=DR hbw;obtain ⟨v,hv,hret⟩:=aBz hb hsm hub' hd hsd k2;have htw:=hv.1
 have hmc:rT [p,v]=some (gO (iO p v)):=by rw [rT,sg2_eq ⟨hp,htw⟩,hpr,Bool.true_and]
 have hgr:iO p v=true->LF [.agg ((wg os ts us is no).cells++v.cells)]=some (.bool (dO (wg os ts us is no) v)):=fun h=>by
  have hus:=DR h;obtain ⟨os',ts',us',is',no',e,b1,b2,b3,b4,b5⟩:=htw;subst e;exact cA (a:=BU os ts us is no os' ts' us' is' no') ⟨_,_,_,_,_,_,_,_,_,_,rfl,⟨hb,⟨b1,b2,b3,b4,b5⟩,hub',hus⟩⟩
 have hvu:=(tk_wd _ htw).1
 have hvc:∃ a b c e f,v=.agg [a,b,c,e,f]/\a.isCell=true/\b.isCell=true/\c.isCell=true/\e.isCell=true/\f.isCell=true:=by
  obtain ⟨os',ts',us',is',no',e,b1,b2,b3,b4,b5⟩:=htw;obtain ⟨c6,c7,c8,c9,c10⟩:=(show WG os' ts' us' is' no' from ⟨b1,b2,b3,b4,b5⟩).cells;exact ⟨_,_,_,_,_,e,c6,c7,c8,c9,c10⟩
 have hL:∀ x∈[ent 38 PI,ent 40 rT,ent 30 LF,entB 29 (lM p [wg os ts us is no]) (fun _=>gO true),oW 39 [wg os ts us is no,d] v],cR Tryz.prog x:=elist_cons fits_ok.ent (elist_cons mCheck_ok.ent (elist_cons after_ok.ent (elist_cons (entB_ok hB) (elist_cons (eJ hret) aH))))
 cases k3:iO p v with
 | false=>
   rw [k3]at hmc;refine ⟨_,⟨zW,7,rfl,mY,fun h=>(nomatch h),fun _=>⟨v,hv,fun _=>⟨rfl,rfl⟩,fun h=>by simp [k3]at h⟩⟩,?_⟩;refine aG hL aM (by kernel_rfl) Tryz.func14 Tryz.ntmps14 Tryz.results14 rfl rfl huu huz ?_;obtain ⟨ns,fs,mm,cs,rfl,q1,q2,q3,q4⟩:=hcell;obtain ⟨a,b,c,e,f,rfl,v1,v2,v3,v4,v5⟩:=hvc;unfold wg at he hfv ⊢;subst hde;simp +contextual +decide (maxSteps:=1000000) only [↓ wP,wQ,tf,Nat.reduceAdd,wS,reduceCtorEq,c1,c2,c3,c4,c5,q1,q2,q3,q4,v1,v2,v3,v4,v5,hzl,hzc,hz,bE hzl,he,hfv,hmc,lC,cD,gO,Nat.reduceMul,zW,aW,Option.bind_some]
 | true=>
 rw [k3]at hmc;have hgr':=hgr k3
 cases k4:dO (wg os ts us is no) v with
 | false=>
   rw [k4]at hgr';refine ⟨_,⟨zW,7,rfl,mY,fun h=>(nomatch h),fun _=>⟨v,hv,fun _=>⟨rfl,rfl⟩,fun h=>by simp [k3,k4]at h⟩⟩,?_⟩;refine aG hL aM (by kernel_rfl) Tryz.func14 Tryz.ntmps14 Tryz.results14 rfl rfl huu huz ?_;obtain ⟨ns,fs,mm,cs,rfl,q1,q2,q3,q4⟩:=hcell;obtain ⟨a,b,c,e,f,rfl,v1,v2,v3,v4,v5⟩:=hvc;simp only [AV.cells,List.cons_append,List.nil_append,wg]at hgr';unfold wg at he hfv ⊢;subst hde;simp +contextual +decide (maxSteps:=1000000) only [↓ wP,wQ,tf,Nat.reduceAdd,wS,reduceCtorEq,c1,c2,c3,c4,c5,q1,q2,q3,q4,v1,v2,v3,v4,v5,hzl,hzc,hz,bE hzl,he,hfv,hmc,hgr',aFw,sY,lC,cD,gO,Nat.reduceMul,zW,aW,Option.bind_some]
 | true=>
   rw [k4]at hgr';refine ⟨_,⟨v,0,rfl,htw,fun h=>(nomatch h),fun _=>⟨v,hv,fun h=>by simp [k3,k4]at h,fun _=>⟨rfl,rfl⟩⟩⟩,?_⟩;refine aG hL aM (by kernel_rfl) Tryz.func14 Tryz.ntmps14 Tryz.results14 rfl rfl huu (nY (aA hvu.und (aA aV aF))) ?_;obtain ⟨ns,fs,mm,cs,rfl,q1,q2,q3,q4⟩:=hcell;obtain ⟨a,b,c,e,f,rfl,v1,v2,v3,v4,v5⟩:=hvc;simp only [AV.cells,List.cons_append,List.nil_append,wg]at hgr';unfold wg at he hfv ⊢;subst hde;simp +contextual +decide (maxSteps:=1000000) only [↓ wP,wQ,tf,Nat.reduceAdd,wS,reduceCtorEq,c1,c2,c3,c4,c5,q1,q2,q3,q4,v1,v2,v3,v4,v5,hzl,hzc,hz,bE hzl,he,hfv,hmc,hgr',aFw,sY,lC,cD,gO,Nat.reduceMul,zW,aW,Option.bind_some]
end
theorem PF {p b:AV} (h:BT p [b]=true):pR p=true/\iN p b=true:=by
 simp only [BT,List.all_cons,List.all_nil,Bool.and_eq_true]at h;exact ⟨h.1,h.2.1⟩
theorem zB {p w:AV} (hp:fL p):(kV p&&iO p w)=(pR p&&iN p w):=by
 have:=WH hp (ws:=[w]) (by simp)
 simpa [KZ,BT] using this
section
variable {p os ts us is no d:AV}
set_option maxHeartbeats 16000000 in
theorem RJ (hp:fL p) (hpm:SmP p) (hb:WG os ts us is no) (hsm:SmW (wg os ts us is no)) (hd:uD d) (hsd:SmD d):∃ r,VU id (fun w=>iN p w&&dO (wg os ts us is no) w) (BT p [wg os ts us is no]&&uB (wg os ts us is no) d) (wg os ts us is no) d r/\Abs.Returns Tryz.prog 15 [p,wg os ts us is no,d] r:=by
 have hup:=(dK p hp).1;have hub:=(tk_wd _ hb.wd).1;have hud:=(mM d hd).1;have huu:=aA hup.und (aA hub.und (aA hud.und aF));have hB:=wD LB hup (twl hb.wd) (v:=.bool (BT p [wg os ts us is no])) (sg2_eq ⟨⟨hp,hpm⟩,aHe (twl hb.wd) (by simp)⟩) dB;have hp0:=hp;have hd0:=hd;obtain ⟨c1,c2,c3,c4,c5⟩:=hb.cells
 have hcell:∃ ns fs mm cs,p=.agg [ns,fs,mm,cs]/\ns.isCell=true/\fs.isCell=true/\mm.isCell=true/\cs.isCell=true:=by
  obtain ⟨ns,fs,mm,cs,e,a1,a2,a3,a4⟩:=hp;exact ⟨ns,fs,mm,cs,e,(dH _ a1).2,(aP _ a2).2,(tu_int _ a3).2,(dJ _ a4).2⟩
 obtain ⟨ns,fs,mm,cs,rfl,q1,q2,q3,q4⟩:=hcell
 have he:∀ {E:AV} {T:List lY} {s:Sto},s.get 4=some (bA 0 [os,ts,us,is,no])->bJ (entB 31 (lM (.agg [ns,fs,mm,cs]) [wg os ts us is no]) (fun _=>E)::T) 31 [.agg [ns,fs,mm,cs],.sl 4 0 0 1 (.is 1)] s=some (.ret E none):=fun {E T s} hs=>bO ⟨4,.is 1,rfl,hs⟩
 have huz:∀ {e:Int},Und 0 (AV.tuple [zW,.int .i64 e]):=fun {e}=>nY (aA und_zW.und (aA aV aF))
 obtain ⟨ds,nw,tt,uu,_,rfl,h1,h2,h3,h4,u,rfl⟩:=hd;have d1:=(oL _ h1).2;have d2:=(dQ _ h2).2;have d3:=(aP _ h3).2;have d4:=(bV _ h4).2;have ho:=hb.os;have hi:=hb.is;obtain ⟨xo,ho,hox⟩:=ho;obtain ⟨xi,hi0,hix0⟩:=hi;obtain ⟨xd,hds,hdx⟩:=h1
 have st1:=fun {Y:Nat->Prop}=>ho.stab (Y:=Y)
 have st2:=fun {Y:Nat->Prop}=>hi0.stab (Y:=Y)
 have st3:=fun {Y:Nat->Prop}=>hds.stab (Y:=Y)
 have hfit:uB (wg os ts us is no) (.agg [ds,nw,tt,uu,.int .i64 u])=(oK (kT xo.length xd) 0 xd.length&&(decide (0<=u)&&decide (u<=(xi.length:Nat)))):=by
  rw [<-ho.els,<-hi0.els,<-hds.els];rfl
 cases k:BT (.agg [ns,fs,mm,cs]) [wg os ts us is no] with
 | false=>
   rw [k]at hB;refine ⟨_,⟨zW,2,rfl,mY,fun _=>⟨rfl,rfl⟩,fun h=>nomatch h⟩,?_⟩;refine aG (L:=[entB 31 (lM (.agg [ns,fs,mm,cs]) [wg os ts us is no]) (fun _=>.bool false)]) (elist_cons (entB_ok hB) aH) aM (by kernel_rfl) Tryz.func15 Tryz.ntmps15 Tryz.results15 rfl rfl huu huz ?_;unfold wg at he ⊢;simp +contextual +decide (maxSteps:=1000000) only [↓ wP,wQ,tf,Nat.reduceAdd,wS,reduceCtorEq,c1,c2,c3,c4,c5,q1,q2,q3,q4,d1,d2,d3,d4,he,Nat.reduceMul,zW,aW,Option.bind_some]
 | true=>
 rw [k]at hB;rw [Bool.true_and];by_cases j1:0<=u
 rotate_left
 ·have j1':(u<0)=True:=eq_true (by omega)
  have k2:uB (wg os ts us is no) (.agg [ds,nw,tt,uu,.int .i64 u])=false:=by rw [hfit,decide_eq_false j1,Bool.false_and,Bool.and_false]
  rw [k2];refine ⟨_,⟨zW,2,rfl,mY,fun _=>⟨rfl,rfl⟩,fun h=>nomatch h⟩,?_⟩;refine aG (L:=[entB 31 (lM (.agg [ns,fs,mm,cs]) [wg os ts us is no]) (fun _=>.bool true)]) (elist_cons (entB_ok hB) aH) aM (by kernel_rfl) Tryz.func15 Tryz.ntmps15 Tryz.results15 rfl rfl huu huz ?_;unfold wg at he ⊢;simp +contextual +decide (maxSteps:=1000000) only [↓ wP,wQ,tf,Nat.reduceAdd,wS,reduceCtorEq,c1,c2,c3,c4,c5,q1,q2,q3,q4,d1,d2,d3,d4,he,j1',Nat.reduceMul,zW,aW,Option.bind_some]
 have j1':(u<0)=False:=eq_false (by omega)
 by_cases j2:u<=((xi.length:Nat):Int)
 rotate_left
 ·have j2':(u > ((xi.length:Nat):Int))=True:=eq_true (by omega)
  have k2:uB (wg os ts us is no) (.agg [ds,nw,tt,uu,.int .i64 u])=false:=by rw [hfit,decide_eq_false j2,Bool.and_false,Bool.and_false]
  rw [k2];refine ⟨_,⟨zW,2,rfl,mY,fun _=>⟨rfl,rfl⟩,fun h=>nomatch h⟩,?_⟩;refine aG (L:=[entB 31 (lM (.agg [ns,fs,mm,cs]) [wg os ts us is no]) (fun _=>.bool true)]) (elist_cons (entB_ok hB) aH) aM (by kernel_rfl) Tryz.func15 Tryz.ntmps15 Tryz.results15 rfl rfl huu huz ?_;unfold wg at he ⊢;simp +contextual +decide (maxSteps:=1000000) only [↓ wP,wQ,tf,Nat.reduceAdd,wS,reduceCtorEq,c1,c2,c3,c4,c5,q1,q2,q3,q4,d1,d2,d3,d4,hi0.len,st2,he,j1',j2',Nat.reduceMul,zW,aW,Option.bind_some]
 have j2':(u > ((xi.length:Nat):Int))=False:=eq_false (by omega);rw [decide_eq_true j1,decide_eq_true j2,Bool.true_and,Bool.and_true]at hfit
 cases k2:oK (kT xo.length xd) 0 xd.length with
 | false=>
   rw [k2]at hfit;rw [hfit];have hsp:false=oK (kT xo.length xd) 0 xd.length:=k2.symm;refine ⟨_,⟨zW,2,rfl,mY,fun _=>⟨rfl,rfl⟩,fun h=>nomatch h⟩,?_⟩;refine aG (L:=[entB 31 (lM (.agg [ns,fs,mm,cs]) [wg os ts us is no]) (fun _=>.bool true)]) (elist_cons (entB_ok hB) aH) aM (by kernel_rfl) Tryz.func15 Tryz.ntmps15 Tryz.results15 rfl rfl huu huz ?_;unfold wg at he ⊢;simp +contextual +decide (maxSteps:=1000000) only [↓ wP,wQ,tf,Nat.reduceAdd,wS,reduceCtorEq,c1,c2,c3,c4,c5,q1,q2,q3,q4,d1,d2,d3,d4,hi0.len,st2,he,lC,j1',j2',Nat.reduceMul];refine aR (fun i e=>∃ t n low o,e=⟨91,none,15,t,[],⟨n,low,o⟩,.no⟩/\t.val 3=.ptr 0 0 0/\t.val 4=.ptr 1 0 0/\t.val 5=.ptr 2 0 0/\t.val 6=.ptr 3 0 0/\t.val 8=.int .i64 (i:Nat)/\o.get 0=some (bA 0 [ns,fs,mm,cs])/\o.get 1=some (bA 0 [os,ts,us,is,no])/\o.get 2=some (bA 0 [ds,nw,tt,uu,.int .i64 u])/\o.get 3=some (bA 0 [.nils,.nils,.nils,.nils,.int .i64 0])/\4<=n/\i<=xd.length/\false=oK (kT xo.length xd) i xd.length) (fun i=>xd.length-i) 0 ⟨_,_,_,_,rfl,by simp +decide only [↓ aB,aE,aC],by simp +decide only [↓ aB,aE,aC],by simp +decide only [↓ aB,aE,aC],by simp +decide only [↓ aB,aE,aC],by simp +decide only [↓ aB,aE,aC];rfl,by simp +decide only [↓ aB,aI,aC,ne_eq],by simp +decide only [↓ aB,aI,aC,ne_eq],by simp +decide only [↓ aB,aI,aC,ne_eq],by simp +decide only [↓ aB,aI,aC,ne_eq],by omega,Nat.zero_le _,hsp⟩ ?_;rintro i _ ⟨t,n,low,o,rfl,t3,t4,t5,t6,t8,g0,g1,g2,g3,hn,hi,hq⟩;have f0:=cZ (show 0<n by omega);have f1:=cZ (show 1<n by omega);have f2:=cZ (show 2<n by omega)
   have f3:=cZ (show 3<n by omega)
   rcases Nat.lt_or_ge i xd.length with hlt | hge
   ·obtain ⟨x,hDx,hm,hg,hde,hix,hw,k5⟩:=bB (fun x h=>tk_dob.len h) hdx hds.2 hlt
    have hpx:=fun {d:Option AV}=>tk_dob.pf hDx (d:=d)
    rw [wB hlt]at hq;obtain ⟨_,_,_,va,fr,rfl,⟨n1,rfl⟩,⟨n2,rfl⟩,⟨n3,rfl⟩,hva,hfr⟩:=hDx;have cv:=(aO _ hva).2;have cf:=(bR _ hfr).2
    have w1:=fun {n:Nat}=>(aO _ hva).1.mono (Nat.zero_le n)
    have w2:=fun {n:Nat}=>(bR _ hfr).1.mono (Nat.zero_le n)
    rw [kT,xH hg]at hq;by_cases y1:0<=n1
    rotate_left
    ·have y1':(n1<0)=True:=eq_true (by omega)
     rw [decide_eq_false y1,Bool.false_and,Bool.false_and]at hq;simp +contextual +decide (maxSteps:=1000000) only [↓ wP,wQ,tf,Nat.reduceAdd,wS,reduceCtorEq,t3,t4,t5,t6,t8,g0,g1,g2,g3,f0,f1,f2,f3,c1,c2,c3,c4,c5,q1,q2,q3,q4,d1,d2,d3,d4,hds.len,hds.idx,ho.len,hix,hpx,k5,bM,cv,cf,w1,w2,st1,st3,y1',zW,aW,Option.bind_some]
    have y1':(n1<0)=False:=eq_false (by omega);rw [decide_eq_true y1,Bool.true_and]at hq;by_cases y2:n1<((xo.length:Nat):Int)
    rotate_left
    ·have y2':(n1 ≥ ((xo.length:Nat):Int))=True:=eq_true (by omega)
     rw [decide_eq_false y2,Bool.false_and,Bool.false_and]at hq;simp +contextual +decide (maxSteps:=1000000) only [↓ wP,wQ,tf,Nat.reduceAdd,wS,reduceCtorEq,t3,t4,t5,t6,t8,g0,g1,g2,g3,f0,f1,f2,f3,c1,c2,c3,c4,c5,q1,q2,q3,q4,d1,d2,d3,d4,hds.len,hds.idx,ho.len,hix,hpx,k5,bM,cv,cf,w1,w2,st1,st3,y1',y2',zW,aW,Option.bind_some]
    have y2':(n1 ≥ ((xo.length:Nat):Int))=False:=eq_false (by omega);rw [decide_eq_true y2,Bool.true_and]at hq
    cases i with
    | zero=>
      rw [show decide (0=0)=true from rfl,Bool.true_or,Bool.true_and]at hq;simp +contextual +decide (maxSteps:=1000000) only [↓ wP,wQ,tf,Nat.reduceAdd,wS,reduceCtorEq,t3,t4,t5,t6,t8,g0,g1,g2,g3,f0,f1,f2,f3,c1,c2,c3,c4,c5,q1,q2,q3,q4,d1,d2,d3,d4,hds.len,hds.idx,ho.len,hix,hpx,k5,bM,cv,cf,w1,w2,st1,st3,y1',y2',hw];exact ⟨0+1,by show _-_<_-_;omega,_,_,_,_,rfl,by simp +decide only [↓ aB,aE,aC,t3],by simp +decide only [↓ aB,aE,aC,t4],by simp +decide only [↓ aB,aE,aC,t5],by simp +decide only [↓ aB,aE,aC,t6],by simp +decide only [↓ aB,aE,aC],by simp +decide only [↓ aB,aI,aC,ne_eq,g0,f0,bM],by simp +decide only [↓ aB,aI,aC,ne_eq,g1,f1,bM],by simp +decide only [↓ aB,aI,aC,ne_eq,g2,f2,bM],by simp +decide only [↓ aB,aI,aC,ne_eq,g3,f3,bM],by omega,hlt,hq⟩
    | succ j=>
      obtain ⟨x',hDx',hm',hg',hde',hix',hw',k6⟩:=bB (fun x h=>tk_dob.len h) hdx hds.2 (show j<xd.length by omega)
      have hpx':=fun {d:Option AV}=>tk_dob.pf hDx' (d:=d)
      obtain ⟨_,_,_,va',fr',rfl,⟨n1',rfl⟩,⟨n2',rfl⟩,⟨n3',rfl⟩,hva',hfr'⟩:=hDx';rw [show decide (j+1=0)=false from rfl,Bool.false_or,Nat.add_sub_cancel,xH hg']at hq;have hpos:(((j+1:Nat):Int) > 0)=True:=eq_true (by omega)
      have hsub:IntKind.i64.wrap (((j+1:Nat):Int)-1)=((j:Nat):Int):=by
       have:=hds.2;rw [show ((j+1:Nat):Int)-1=((j:Nat):Int) by omega];exact IntWalk.i64_in _ (by omega)
      by_cases y3:n1'<n1
      rotate_left
      ·have y3':(n1<=n1')=True:=eq_true (by omega)
       rw [decide_eq_false y3,Bool.false_and]at hq;simp +contextual +decide (maxSteps:=1000000) only [↓ wP,wQ,tf,Nat.reduceAdd,wS,reduceCtorEq,t3,t4,t5,t6,t8,g0,g1,g2,g3,f0,f1,f2,f3,c1,c2,c3,c4,c5,q1,q2,q3,q4,d1,d2,d3,d4,hds.len,hds.idx,ho.len,hix,hpx,k5,hix',hpx',k6,hpos,hsub,bM,cv,cf,w1,w2,st1,st3,y1',y2',y3',zW,aW,Option.bind_some]
      have y3':(n1<=n1')=False:=eq_false (by omega);rw [decide_eq_true y3,Bool.true_and]at hq;simp +contextual +decide (maxSteps:=1000000) only [↓ wP,wQ,tf,Nat.reduceAdd,wS,reduceCtorEq,t3,t4,t5,t6,t8,g0,g1,g2,g3,f0,f1,f2,f3,c1,c2,c3,c4,c5,q1,q2,q3,q4,d1,d2,d3,d4,hds.len,hds.idx,ho.len,hix,hpx,k5,hix',hpx',k6,hpos,hsub,bM,cv,cf,w1,w2,st1,st3,y1',y2',y3',hw];exact ⟨j+1+1,by show _-_<_-_;omega,_,_,_,_,rfl,by simp +decide only [↓ aB,aE,aC,t3],by simp +decide only [↓ aB,aE,aC,t4],by simp +decide only [↓ aB,aE,aC,t5],by simp +decide only [↓ aB,aE,aC,t6],by simp +decide only [↓ aB,aE,aC],by simp +decide only [↓ aB,aI,aC,ne_eq,g0,f0,bM],by simp +decide only [↓ aB,aI,aC,ne_eq,g1,f1,bM],by simp +decide only [↓ aB,aI,aC,ne_eq,g2,f2,bM],by simp +decide only [↓ aB,aI,aC,ne_eq,g3,f3,bM],by omega,hlt,hq⟩
   ·obtain rfl:i=xd.length:=Nat.le_antisymm hi hge
    rw [HG]at hq;cases hq
 | true=>
 rw [k2]at hfit;rw [hfit];have hsp:true=oK (kT xo.length xd) 0 xd.length:=k2.symm;obtain ⟨hpr,hbw⟩:=PF k
 have hbw':iO (.agg [ns,fs,mm,cs]) (wg os ts us is no)=true:=by
  have:=zB (w:=wg os ts us is no) hp0;rw [hpr,hbw,Bool.true_and,Bool.and_eq_true]at this;exact this.2
 have hub':=DR hbw';obtain ⟨v,hv,hret⟩:=VX hb hsm hub' hd0 hsd hfit;have htw:=hv.1;have hmc:uO [.agg [ns,fs,mm,cs],v]=some (.bool (iN (.agg [ns,fs,mm,cs]) v)):=sg2_eq ⟨hp0,htw⟩
 have hgr:iN (.agg [ns,fs,mm,cs]) v=true->yJ [wg os ts us is no,v]=some (.bool (dO (wg os ts us is no) v)):=fun h=>by
  have hus:UsB (v.fld 4):=by
   have:=zB (w:=v) hp0;rw [hpr,h,Bool.true_and,Bool.and_eq_true]at this;exact DR this.2
  rw [yJ,sg2_eq ⟨hb.wd,htw,hub',hus⟩,RT]
 have hvu:=(tk_wd _ htw).1
 have hvc:∃ a b c e f,v=.agg [a,b,c,e,f]/\a.isCell=true/\b.isCell=true/\c.isCell=true/\e.isCell=true/\f.isCell=true:=by
  obtain ⟨os',ts',us',is',no',e,b1,b2,b3,b4,b5⟩:=htw;obtain ⟨c6,c7,c8,c9,c10⟩:=(show WG os' ts' us' is' no' from ⟨b1,b2,b3,b4,b5⟩).cells;exact ⟨_,_,_,_,_,e,c6,c7,c8,c9,c10⟩
 obtain ⟨R,hR⟩:∃ R,R=if (iN (.agg [ns,fs,mm,cs]) v&&dO (wg os ts us is no) v)=true then AV.tuple [v,.int .i64 0] else .tuple [zW,.int .i64 7]:=⟨_,rfl⟩
 have hRu:Und 0 R:=by
  rw [hR];split
  ·exact nY (aA hvu.und (aA aV aF))
  ·exact huz
 have hRa:VU id (fun w=>iN (.agg [ns,fs,mm,cs]) w&&dO (wg os ts us is no) w) true (wg os ts us is no) (.agg [ds,nw,tt,uu,.int .i64 u]) R:=by
  rw [hR];by_cases h:(iN (.agg [ns,fs,mm,cs]) v&&dO (wg os ts us is no) v)=true
  ·rw [if_pos h]
   exact ⟨v,0,rfl,htw,fun h=>(nomatch h),fun _=>⟨v,hv,fun h'=>absurd (h.symm.trans h') (by decide),fun _=>⟨rfl,rfl⟩⟩⟩
  ·rw [if_neg h]
   exact ⟨zW,7,rfl,mY,fun h=>(nomatch h),fun _=>⟨v,hv,fun _=>⟨rfl,rfl⟩,fun h'=>absurd h' h⟩⟩
 refine ⟨R,hRa,?_⟩;clear hRa;have hL:∀ x∈[ent 42 uO,ent 32 yJ,entB 31 (lM (.agg [ns,fs,mm,cs]) [wg os ts us is no]) (fun _=>.bool true),oW 41 [wg os ts us is no,.agg [ds,nw,tt,uu,.int .i64 u]] v],cR Tryz.prog x:=elist_cons rWorld_ok.ent (elist_cons follows_ok.ent (elist_cons (entB_ok hB) (elist_cons (eJ hret) aH)));refine aG hL aM (by kernel_rfl) Tryz.func15 Tryz.ntmps15 Tryz.results15 rfl rfl huu hRu ?_;obtain ⟨a,b,c,e,f,rfl,v1,v2,v3,v4,v5⟩:=hvc;unfold wg at he hR hgr ⊢;generalize iN (.agg [ns,fs,mm,cs]) (.agg [a,b,c,e,f])=K1 at *;generalize dO (.agg [os,ts,us,is,no]) (.agg [a,b,c,e,f])=K2 at *;simp +contextual +decide (maxSteps:=1000000) only [↓ wP,wQ,tf,Nat.reduceAdd,wS,reduceCtorEq,c1,c2,c3,c4,c5,q1,q2,q3,q4,d1,d2,d3,d4,hi0.len,st2,he,lC,j1',j2',Nat.reduceMul];refine aR (fun i e=>∃ t n low o,e=⟨91,none,15,t,[],⟨n,low,o⟩,.no⟩/\t.val 3=.ptr 0 0 0/\t.val 4=.ptr 1 0 0/\t.val 5=.ptr 2 0 0/\t.val 6=.ptr 3 0 0/\t.val 8=.int .i64 (i:Nat)/\o.get 0=some (bA 0 [ns,fs,mm,cs])/\o.get 1=some (bA 0 [os,ts,us,is,no])/\o.get 2=some (bA 0 [ds,nw,tt,uu,.int .i64 u])/\o.get 3=some (bA 0 [.nils,.nils,.nils,.nils,.int .i64 0])/\4<=n/\i<=xd.length/\true=oK (kT xo.length xd) i xd.length) (fun i=>xd.length-i) 0 ⟨_,_,_,_,rfl,by simp +decide only [↓ aB,aE,aC],by simp +decide only [↓ aB,aE,aC],by simp +decide only [↓ aB,aE,aC],by simp +decide only [↓ aB,aE,aC],by simp +decide only [↓ aB,aE,aC];rfl,by simp +decide only [↓ aB,aI,aC,ne_eq],by simp +decide only [↓ aB,aI,aC,ne_eq],by simp +decide only [↓ aB,aI,aC,ne_eq],by simp +decide only [↓ aB,aI,aC,ne_eq],by omega,Nat.zero_le _,hsp⟩ ?_
 rintro i _ ⟨t,n,low,o,rfl,t3,t4,t5,t6,t8,g0,g1,g2,g3,hn,hi,hq⟩;have f0:=cZ (show 0<n by omega);have f1:=cZ (show 1<n by omega);have f2:=cZ (show 2<n by omega);have f3:=cZ (show 3<n by omega)
 rcases Nat.lt_or_ge i xd.length with hlt | hge
 ·obtain ⟨x,hDx,hm,hg,hde,hix,hw,k5⟩:=bB (fun x h=>tk_dob.len h) hdx hds.2 hlt
  have hpx:=fun {d:Option AV}=>tk_dob.pf hDx (d:=d)
  rw [wB hlt]at hq;obtain ⟨_,_,_,va,fr,rfl,⟨n1,rfl⟩,⟨n2,rfl⟩,⟨n3,rfl⟩,hva,hfr⟩:=hDx;have cv:=(aO _ hva).2;have cf:=(bR _ hfr).2
  have w1:=fun {n:Nat}=>(aO _ hva).1.mono (Nat.zero_le n)
  have w2:=fun {n:Nat}=>(bR _ hfr).1.mono (Nat.zero_le n)
  rw [kT,xH hg]at hq;by_cases y1:0<=n1
  rotate_left
  ·have y1':(n1<0)=True:=eq_true (by omega)
   rw [decide_eq_false y1,Bool.false_and,Bool.false_and]at hq;cases hq
  have y1':(n1<0)=False:=eq_false (by omega);rw [decide_eq_true y1,Bool.true_and]at hq;by_cases y2:n1<((xo.length:Nat):Int)
  rotate_left
  ·have y2':(n1 ≥ ((xo.length:Nat):Int))=True:=eq_true (by omega)
   rw [decide_eq_false y2,Bool.false_and,Bool.false_and]at hq;cases hq
  have y2':(n1 ≥ ((xo.length:Nat):Int))=False:=eq_false (by omega);rw [decide_eq_true y2,Bool.true_and]at hq
  cases i with
  | zero=>
    rw [show decide (0=0)=true from rfl,Bool.true_or,Bool.true_and]at hq;simp +contextual +decide (maxSteps:=1000000) only [↓ wP,wQ,tf,Nat.reduceAdd,wS,reduceCtorEq,t3,t4,t5,t6,t8,g0,g1,g2,g3,f0,f1,f2,f3,c1,c2,c3,c4,c5,q1,q2,q3,q4,d1,d2,d3,d4,hds.len,hds.idx,ho.len,hix,hpx,k5,bM,cv,cf,w1,w2,st1,st3,y1',y2',hw];exact ⟨0+1,by show _-_<_-_;omega,_,_,_,_,rfl,by simp +decide only [↓ aB,aE,aC,t3],by simp +decide only [↓ aB,aE,aC,t4],by simp +decide only [↓ aB,aE,aC,t5],by simp +decide only [↓ aB,aE,aC,t6],by simp +decide only [↓ aB,aE,aC],by simp +decide only [↓ aB,aI,aC,ne_eq,g0,f0,bM],by simp +decide only [↓ aB,aI,aC,ne_eq,g1,f1,bM],by simp +decide only [↓ aB,aI,aC,ne_eq,g2,f2,bM],by simp +decide only [↓ aB,aI,aC,ne_eq,g3,f3,bM],by omega,hlt,hq⟩
  | succ j=>
    obtain ⟨x',hDx',hm',hg',hde',hix',hw',k6⟩:=bB (fun x h=>tk_dob.len h) hdx hds.2 (show j<xd.length by omega)
    have hpx':=fun {d:Option AV}=>tk_dob.pf hDx' (d:=d)
    obtain ⟨_,_,_,va',fr',rfl,⟨n1',rfl⟩,⟨n2',rfl⟩,⟨n3',rfl⟩,hva',hfr'⟩:=hDx';rw [show decide (j+1=0)=false from rfl,Bool.false_or,Nat.add_sub_cancel,xH hg']at hq;have hpos:(((j+1:Nat):Int) > 0)=True:=eq_true (by omega)
    have hsub:IntKind.i64.wrap (((j+1:Nat):Int)-1)=((j:Nat):Int):=by
     have:=hds.2;rw [show ((j+1:Nat):Int)-1=((j:Nat):Int) by omega];exact IntWalk.i64_in _ (by omega)
    by_cases y3:n1'<n1
    rotate_left
    ·have y3':(n1<=n1')=True:=eq_true (by omega)
     rw [decide_eq_false y3,Bool.false_and]at hq;cases hq
    have y3':(n1<=n1')=False:=eq_false (by omega);rw [decide_eq_true y3,Bool.true_and]at hq;simp +contextual +decide (maxSteps:=1000000) only [↓ wP,wQ,tf,Nat.reduceAdd,wS,reduceCtorEq,t3,t4,t5,t6,t8,g0,g1,g2,g3,f0,f1,f2,f3,c1,c2,c3,c4,c5,q1,q2,q3,q4,d1,d2,d3,d4,hds.len,hds.idx,ho.len,hix,hpx,k5,hix',hpx',k6,hpos,hsub,bM,cv,cf,w1,w2,st1,st3,y1',y2',y3',hw];exact ⟨j+1+1,by show _-_<_-_;omega,_,_,_,_,rfl,by simp +decide only [↓ aB,aE,aC,t3],by simp +decide only [↓ aB,aE,aC,t4],by simp +decide only [↓ aB,aE,aC,t5],by simp +decide only [↓ aB,aE,aC,t6],by simp +decide only [↓ aB,aE,aC],by simp +decide only [↓ aB,aI,aC,ne_eq,g0,f0,bM],by simp +decide only [↓ aB,aI,aC,ne_eq,g1,f1,bM],by simp +decide only [↓ aB,aI,aC,ne_eq,g2,f2,bM],by simp +decide only [↓ aB,aI,aC,ne_eq,g3,f3,bM],by omega,hlt,hq⟩
 ·obtain rfl:i=xd.length:=Nat.le_antisymm hi hge
  clear hq
  cases K1 with
  | false=>
    rw [Bool.false_and,if_neg (by decide)]at hR;subst hR;simp +contextual +decide (maxSteps:=1000000) only [↓ wP,wQ,tf,Nat.reduceAdd,wS,reduceCtorEq,t3,t4,t5,t6,t8,g0,g1,g2,g3,f0,f1,f2,f3,bM,aS,c1,c2,c3,c4,c5,q1,q2,q3,q4,d1,d2,d3,d4,v1,v2,v3,v4,v5,hds.len,st3,hmc,lC,cD,zW,aW,Option.bind_some]
  | true=>
    have hgr':=hgr rfl
    cases K2 with
    | false=>
      rw [Bool.and_false,if_neg (by decide)]at hR;subst hR;simp +contextual +decide (maxSteps:=1000000) only [↓ wP,wQ,tf,Nat.reduceAdd,wS,reduceCtorEq,t3,t4,t5,t6,t8,g0,g1,g2,g3,f0,f1,f2,f3,bM,aS,c1,c2,c3,c4,c5,q1,q2,q3,q4,d1,d2,d3,d4,v1,v2,v3,v4,v5,hds.len,st3,hmc,hgr',lC,cD,zW,aW,Option.bind_some]
    | true=>
      rw [Bool.and_true,if_pos rfl]at hR;subst hR;simp +contextual +decide (maxSteps:=1000000) only [↓ wP,wQ,tf,Nat.reduceAdd,wS,reduceCtorEq,t3,t4,t5,t6,t8,g0,g1,g2,g3,f0,f1,f2,f3,bM,aS,c1,c2,c3,c4,c5,q1,q2,q3,q4,d1,d2,d3,d4,v1,v2,v3,v4,v5,hds.len,st3,hmc,hgr',lC,cD,zW,aW,Option.bind_some]
end
theorem PH {xs rows:List AV}:∀ {i:Nat},i<=rows.length->kX dG (xs.map dG) rows i=(kX id (xs.map id) rows i).map dG
 | 0,_=>by rw [CO,CO,List.map_id]
 | i+1,h=>by
   have hg:=List.getElem?_eq_getElem (show i<rows.length by omega);rw [lH hg,lH hg,PH (by omega),List.map_set];rfl
theorem CM:∀ {l m:List AV},fZ l (m.map dG)=fZ l m
 | [],[]=>rfl
 | [],_::_=>rfl
 | _::_,[]=>rfl
 | o::l,x::m=>by
   rw [List.map_cons,fZ,fZ,CM,HJ,HJ,aCi];rfl
theorem RK {p b d w w':AV} (h:sV dG b d w) (h':sV id b d w'):sZ w w'=true/\iO p w=iO p w'/\dO b w=dO b w':=by
 obtain ⟨_,a0,a1,a2,a3,a4⟩:=h;obtain ⟨_,b0,b1,b2,b3,b4⟩:=h'
 have key:(w.fld 0).els=(w'.fld 0).els.map dG:=by
  rw [a0,b0,List.map_append,PH (Nat.le_refl _)];simp only [List.map_id]
 refine ⟨?_,?_,?_⟩
 ·rw [sZ,key,a1,a2,a3,a4,b1,b2,b3,b4,HK,qD,oM,oM,zE];simp
 ·rw [iO,iO,key,RY,a1,a2,a3,a4,b1,b2,b3,b4]
 ·rw [dO,dO,jY,jY,key,CM,List.length_map,a1,a2,a3,a4,b1,b2,b3,b4]
theorem VW {p b d r r':AV} {k k':Bool} (hk:k=k') (hp:k=true->∀ w,iO p w=iN p w) (h:VU dG (fun w=>iO p w&&dO b w) k b d r) (h':VU id (fun w=>iN p w&&dO b w) k' b d r'):
 ∃ v v' e,r=.tuple [v,.int .i64 e]/\r'=.tuple [v',.int .i64 e]/\oT v/\oT v'/\sZ v v'=true:=by
 subst hk;obtain ⟨v,e,rfl,t,a,c⟩:=h;obtain ⟨v',e',rfl,t',a',c'⟩:=h'
 have hzz:sZ zW zW=true:=by rw [sZ,qD,oM,oM,zE];simp
 cases k with
 | false=>
   obtain ⟨rfl,rfl⟩:=a rfl;obtain ⟨rfl,rfl⟩:=a' rfl;exact ⟨_,_,_,rfl,rfl,t,t',hzz⟩
 | true=>
   obtain ⟨w,x1,x2,x3⟩:=c rfl;obtain ⟨w',y1,y2,y3⟩:=c' rfl;obtain ⟨s1,s2,s3⟩:=RK (p:=p) x1 y1
   have hA:(iO p w&&dO b w)=(iN p w'&&dO b w'):=by rw [s2,s3,hp rfl]
   cases hx:(iO p w&&dO b w) with
   | false=>
     obtain ⟨rfl,rfl⟩:=x2 hx;obtain ⟨rfl,rfl⟩:=y2 (hA.symm.trans hx);exact ⟨_,_,_,rfl,rfl,t,t',hzz⟩
   | true=>
     obtain ⟨rfl,rfl⟩:=x3 hx;obtain ⟨rfl,rfl⟩:=y3 (hA.symm.trans hx);exact ⟨_,_,_,rfl,rfl,t,t',s1⟩
theorem RL {d:AV} (h:mL d=true):SmD d:=by
 simp only [mL,Bool.and_eq_true,decide_eq_true_eq]at h;obtain ⟨h1,h2,h3,h4⟩:=h;simp only [eY,Bool.and_eq_true,decide_eq_true_eq,List.all_eq_true]at h3 h4;obtain ⟨_,b2,b3,_,b5⟩:=h3;obtain ⟨_,_,_,_,e5⟩:=h4;exact ⟨by omega,by omega,by omega,by omega,fun x hx=>zH (b5 _ (List.mem_map_of_mem hx)),fun x hx=>zH (e5 x hx)⟩
theorem aGy {p b:AV} (hp:fL p) (h:KZ p [b]=true):∀ w,iO p w=iN p w:=fun w=>by
 have e:=zB (w:=w) hp;have h1:=(VV h).1;have h2:=(PF ((WH hp (ws:=[b]) (by simp)).symm.trans h)).1;rw [h1,h2,Bool.true_and,Bool.true_and]at e;exact e
section
variable {p os ts us is no d:AV}
set_option maxHeartbeats 8000000 in
theorem KU (hk:Abs.Returns Tryz.prog 7 [] (.bool true)) (hp:fL p) (h1:WG os ts us is no) (hd:uD d):Abs.Returns Tryz.prog 4 [p,wg os ts us is no,d] (.bool true):=by
 have hb:=h1.wd;have hup:=(dK p hp).1;have hub:=(tk_wd _ hb).1;have hud:=(mM d hd).1;have huu:=aA hup.und (aA hub.und (aA hud.und aF));obtain ⟨c1,c2,c3,c4,c5⟩:=h1.cells
 obtain ⟨E,hE⟩:∃ E,E=AV.bool (wC p [wg os ts us is no]):=⟨_,rfl⟩
 have hB:=wD RR hup (twl hb) (v:=E) (by rw [hE];exact sg2_eq ⟨hp,aHe (twl hb) (by simp)⟩) (by rw [hE];exact dB)
 have he:∀ {T:List lY} {s:Sto},s.get 3=some (bA 0 [os,ts,us,is,no])->bJ (entB 6 (lM p [wg os ts us is no]) (fun _=>E)::T) 6 [p,.sl 3 0 0 1 (.is 1)] s=some (.ret E none):=fun {T s} hs=>bO ⟨3,.is 1,rfl,hs⟩
 have e3:rO []=some (.bool true):=rfl
 have hcell:∃ ns fs mm cs,p=.agg [ns,fs,mm,cs]/\ns.isCell=true/\fs.isCell=true/\mm.isCell=true/\cs.isCell=true:=by
  obtain ⟨ns,fs,mm,cs,e,a1,a2,a3,a4⟩:=hp;exact ⟨ns,fs,mm,cs,e,(dH _ a1).2,(aP _ a2).2,(tu_int _ a3).2,(dJ _ a4).2⟩
 have hdc:∃ a b c e f,d=.agg [a,b,c,e,f]/\a.isCell=true/\b.isCell=true/\c.isCell=true/\e.isCell=true/\f.isCell=true:=by
  obtain ⟨a,b,c,e,f,h,a1,a2,a3,a4,a5⟩:=hd;exact ⟨a,b,c,e,f,h,(oL _ a1).2,(dQ _ a2).2,(aP _ a3).2,(bV _ a4).2,(tu_int _ a5).2⟩
 have hsd:yI [d]=some (.bool (mL d)):=cA hd
 cases k:wC p [wg os ts us is no] with
 | false=>
   rw [k]at hE;subst hE;refine aG (L:=[ent 7 rO,entB 6 (lM p [wg os ts us is no]) (fun _=>.bool false)]) (elist_cons (sX hk).ent (elist_cons (entB_ok hB) aH)) aM (by kernel_rfl) Tryz.func4 Tryz.ntmps4 Tryz.results4 rfl rfl huu aJ ?_;obtain ⟨ns,fs,mm,cs,rfl,q1,q2,q3,q4⟩:=hcell;obtain ⟨a,b,c,e,f,rfl,v1,v2,v3,v4,v5⟩:=hdc;unfold wg at he ⊢;simp +contextual +decide (maxSteps:=1000000) only [↓ wP,wQ,tf,Nat.reduceAdd,wS,reduceCtorEq,c1,c2,c3,c4,c5,q1,q2,q3,q4,v1,v2,v3,v4,v5,he,e3,Nat.reduceMul]
 | true=>
 rw [k]at hE;subst hE
 cases k2:mL d with
 | false=>
   rw [k2]at hsd;refine aG (L:=[ent 7 rO,ent 13 yI,entB 6 (lM p [wg os ts us is no]) (fun _=>.bool true)]) (elist_cons (sX hk).ent (elist_cons smallD_ok.ent (elist_cons (entB_ok hB) aH))) aM (by kernel_rfl) Tryz.func4 Tryz.ntmps4 Tryz.results4 rfl rfl huu aJ ?_;obtain ⟨ns,fs,mm,cs,rfl,q1,q2,q3,q4⟩:=hcell;obtain ⟨a,b,c,e,f,rfl,v1,v2,v3,v4,v5⟩:=hdc;unfold wg at he ⊢;simp +contextual +decide (maxSteps:=1000000) only [↓ wP,wQ,tf,Nat.reduceAdd,wS,reduceCtorEq,c1,c2,c3,c4,c5,q1,q2,q3,q4,v1,v2,v3,v4,v5,he,hsd,e3,Nat.reduceMul]
 | true=>
 rw [k2]at hsd
 have hsm:SmW (wg os ts us is no):=by
  simp only [wC,Bool.and_eq_true,List.all_cons,List.all_nil]at k;exact WE k.2.1
 have hpm:SmP p:=by
  simp only [wC,Bool.and_eq_true]at k;exact WF k.1
 have hsd':=RL k2;obtain ⟨r,ha,hr⟩:=RI hp h1 hsm hd hsd';obtain ⟨r',ha',hr'⟩:=RJ hp hpm h1 hsm hd hsd';have hoe:=WH hp (ws:=[wg os ts us is no]) (by simp);obtain ⟨v,v',e,rfl,rfl,t,t',hs⟩:=VW (by rw [hoe]) (fun h=>aGy hp (Bool.and_eq_true_iff.1 h).1) ha ha'
 have e4:LG [v,v']=some (.bool true):=by rw [<-hs];exact sg2_eq ⟨t,t'⟩
 obtain ⟨_,zs,rfl,hzl,hzc⟩:=tk_wd _ t;obtain ⟨_,zs',rfl,hzl',hzc'⟩:=tk_wd _ t'
 have hz:0+5<=zs.length:=by omega
 have hz':0+5<=zs'.length:=by omega
 refine aG (L:=[ent 7 rO,ent 13 yI,ent 16 LG,entB 6 (lM p [wg os ts us is no]) (fun _=>.bool true),oW 14 [p,wg os ts us is no,d] (.tuple [.agg zs,.int .i64 e]),oW 15 [p,wg os ts us is no,d] (.tuple [.agg zs',.int .i64 e])]) (elist_cons (sX hk).ent (elist_cons smallD_ok.ent (elist_cons rsameW_ok.ent (elist_cons (entB_ok hB) (elist_cons (eJ hr) (elist_cons (eJ hr') aH)))))) aM (by kernel_rfl) Tryz.func4 Tryz.ntmps4 Tryz.results4 rfl rfl huu aJ ?_;obtain ⟨ns,fs,mm,cs,rfl,q1,q2,q3,q4⟩:=hcell;obtain ⟨a,b,c,e',f,rfl,v1,v2,v3,v4,v5⟩:=hdc;unfold wg at he ⊢;simp +contextual +decide (maxSteps:=1000000) only [↓ wP,wQ,tf,Nat.reduceAdd,wS,reduceCtorEq,c1,c2,c3,c4,c5,q1,q2,q3,q4,v1,v2,v3,v4,v5,he,hsd,Nat.reduceMul,e3,e4,lC,cD,FJ,aHd,hzl,hzc,hz,bE hzl,hzl',hzc',hz',bE hzl']
end
theorem aKd:KQ Tryz.prog 5 78 RU:=fun d xs h hl=>by
 cases d with
 | zero=>exact h.elim
 | succ D=>
   have hf:xT Tryz.prog 78=some [(3,some none,0),(76,some (some 4),1)]:=by kernel_rfl
   have hs:=fV hf h
   match xs,hl with
   | [x0,x1,x2,x3,x4],_=>
     obtain ⟨k1,e1,h1⟩:=hs _ (List.mem_cons_self ..);obtain ⟨k2,e2,h2⟩:=hs _ (List.mem_cons_of_mem _ (List.mem_cons_self ..));cases e1;cases e2;obtain ⟨_,q1,w1⟩:=nP _ _ h1;obtain ⟨_,_,_,_,q2,a1,a2,a3,a4⟩:=aKq D [x1,x2,x3,x4] h2 rfl;cases q1;cases q2;exact ⟨_,_,_,_,_,rfl,w1,a1,a2,a3,a4⟩
theorem aGz:tX Tryz.prog 36 (TSl RU):=mN (by kernel_rfl) (by kernel_rfl) aKd
theorem aHa:KQ Tryz.prog 5 38 uD:=aKn (a:=36) (b:=27) (c:=23) (e:=28) (f:=3) (by kernel_rfl) aGz aFy zG WR nP
end
end Go.Proofs.YtifmdaalhclhgaaGreat
