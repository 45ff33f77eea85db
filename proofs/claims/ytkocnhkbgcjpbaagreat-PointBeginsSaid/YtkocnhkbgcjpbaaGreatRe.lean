/-
  Points: Begin and Whole of the program.
-/
import Derived.Test.YtkocnhkbgcjpbaaGreatRa
set_option linter.unusedVariables false
set_option linter.unusedSimpArgs false
namespace Go.Proofs.YtkocnhkbgcjpbaaGreat
open Go.Abs Go Go.Abs.TryzF
noncomputable section
set_option maxRecDepth 10000
def KH:AV:=.agg [.nils,.nils,.nils,.nils,.int .i64 0]
def zO:AV:=.agg [.nils,.nils,.nils,.nils,.int .i64 0,.nils,.nils,.nils,.nils,.int .i64 0,.nils,.nils]
section
variable {p os ts us is no os' ts' us' is' no' d g:AV}
def AU (p os ts us is no os' ts' us' is' no' d g:AV):AV:=if uT p os ts us is no os' ts' us' is' no' d g=true then .tuple [jA os os' d ts' us' is' no',.int .i64 0] else .tuple [KH,.int .i64 2]
theorem yK (h:uT p os ts us is no os' ts' us' is' no' d g=true):jG os os' d g=true:=by
 simp only [uT,Bool.and_eq_true]at h;exact h.2.1
theorem VF (h:PS p os ts us is no os' ts' us' is' no' d g):Abs.Returns Tryz.prog 18 [p,mQ os ts us is no os' ts' us' is' no' d g] (AU p os ts us is no os' ts' us' is' no' d g):=by
 have hu:=h.und
 obtain ⟨c1,c2,c3,c4,c5⟩:=h.hs.w.cells
 obtain ⟨c6,c7,c8,c9,c10⟩:=h.hs.s.cells
 obtain ⟨c11,c12⟩:=h.hs.cells
 obtain ⟨hp,hm,hs,hso,hso'⟩:=h
 have hq:∃ ns fs mm cs,p=.agg [ns,fs,mm,cs]/\ns.isCell=true/\fs.isCell=true/\mm.isCell=true/\cs.isCell=true:=by
  obtain ⟨ns,fs,mm,cs,rfl,a1,a2,a3,a4⟩:=hp
  exact ⟨ns,fs,mm,cs,rfl,(cS _ a1).2,(aL _ a2).2,(tu_int _ a3).2,(cZ _ a4).2⟩
 refine cB (L:=[fV 29 (BY p os ts us is no os' ts' us' is' no' d g),fV 44 (rW p os ts us is no os' ts' us' is' no' d g)]) (elist_cons (eD fun _ _ _ h=>by obtain ⟨_,_,_,_,_,h⟩:=h;exact h) (elist_cons (eD fun _ _ _ h=>by obtain ⟨_,_,_,_,_,_,h⟩:=h;exact h) aE)) aH (by kernel_rfl) Tryz.func18 Tryz.ntmps18 Tryz.results18 rfl rfl hu ?_
 obtain ⟨res,⟨⟨n1,low1,o1⟩,v,_,rfl,⟨hsim,hv⟩,_⟩,he⟩:=jR (f:=29) (OY hp hs hso hso' ⟨3,0,((Tr.leaf.set 0 (aS 0 p.cells)).set 1 (aS 0 [os,ts,us,is,no,os',ts',us',is',no',d,g])).set 2 (aS 0 [.nils,.nils,.nils,.nils,.int .i64 0])⟩)
 obtain ⟨ns,fs,mm,cs,rfl,q1,q2,q3,q4⟩:=hq
 have he':aV [fV 29 (BY (.agg [ns,fs,mm,cs]) os ts us is no os' ts' us' is' no' d g),fV 44 (rW (.agg [ns,fs,mm,cs]) os ts us is no os' ts' us' is' no' d g)] 29 [.agg [ns,fs,mm,cs],.agg [os,ts,us,is,no,os',ts',us',is',no',d,g]] ⟨3,0,((Tr.leaf.set 0 (aS 0 [ns,fs,mm,cs])).set 1 (aS 0 [os,ts,us,is,no,os',ts',us',is',no',d,g])).set 2 (aS 0 [.nils,.nils,.nils,.nils,.int .i64 0])⟩=_:=he _
 clear he
 have hg2:o1.get 2=some (aS 0 [.nils,.nils,.nils,.nils,.int .i64 0]):=by
  have:=hsim.2 2 (show 2<3 by omega)
  have hn:3<=n1:=hsim.1
  rw [Sto.get_mk (show 2<n1 by omega),Sto.get_mk (show 2<3 by omega)]at this
  rw [this];rfl
 have f2:=pZ (show 2<n1 by have:3<=n1:=hsim.1;omega)
 rw [AU]
 rcases hv with ⟨hB,id,rfl,ho⟩ | ⟨hB,rfl⟩
 ·have l6:∀ low,∃ low',aV [fV 29 (BY (.agg [ns,fs,mm,cs]) os ts us is no os' ts' us' is' no' d g),fV 44 (rW (.agg [ns,fs,mm,cs]) os ts us is no os' ts' us' is' no' d g)] 44 [.ptr id 0 0] ⟨n1,low,o1⟩=some (.ret (jA os os' d ts' us' is' no') (some ⟨n1,low',o1⟩)):=fun low=>by
   obtain ⟨res,h1,h2⟩:=jR (f:=44) (zR (p:=.agg [ns,fs,mm,cs]) hs hso hso' (yK hB) (ho.sim (Sim.low ⟨n1,low1,o1⟩ low)))
   obtain ⟨low',rfl⟩:=FM _ os ts us is no os' ts' us' is' no' d g h1
   refine ⟨low',?_⟩
   rw [bR (by decide)];exact h2 _
  have hwt:=vG hs (yK hB)
  have hwu:=(nX _ hwt).1
  obtain ⟨w1,w2,w3,w4,w5,hw,d1,d2,d3,d4,d5⟩:=hwt
  have k1:=(fT _ d1).2
  have k2:=(aL _ d2).2
  have k3:=(bT _ d3).2
  have k4:=(aL _ d4).2
  have k5:=(tu_int _ d5).2
  rw [if_pos hB]
  rw [hw]at l6 hwu ⊢
  have l6':=l6 low1
  obtain ⟨low',l6'⟩:=l6'
  generalize ([fV 29 (BY (.agg [ns,fs,mm,cs]) os ts us is no os' ts' us' is' no' d g),fV 44 (rW (.agg [ns,fs,mm,cs]) os ts us is no os' ts' us' is' no' d g)]:List kL)=LL at *
  unfold mQ
  simp +contextual +decide (maxSteps:=1000000) only [↓ wP,wQ,tf,Nat.reduceAdd,wS,c1,c2,c3,c4,c5,c6,c7,c8,c9,c10,c11,c12,q1,q2,q3,q4,he',l6',hg2,f2,k1,k2,k3,k4,k5,bE,Option.bind_some]
  exact .und _ (dJ (aA hwu.und (aA aR aD)))
 ·rw [if_neg (by rw [hB];decide)]
  generalize ([fV 29 (BY (.agg [ns,fs,mm,cs]) os ts us is no os' ts' us' is' no' d g),fV 44 (rW (.agg [ns,fs,mm,cs]) os ts us is no os' ts' us' is' no' d g)]:List kL)=LL at *
  unfold mQ
  simp +contextual +decide (maxSteps:=1000000) only [↓ wP,wQ,tf,Nat.reduceAdd,wS,c1,c2,c3,c4,c5,c6,c7,c8,c9,c10,c11,c12,q1,q2,q3,q4,he',hg2,f2,bE,Option.bind_some]
  exact .und _ (dJ (aA (UnderE.und ⟨2,rfl⟩) (aA aR aD)))
def IsS (r:AV) (xo xt xu xi:List AV) (no:AV) (xo' xt' xu' xi':List AV) (no':AV) (xd xg:List AV):Prop:=∃ os ts us is os' ts' us' is' d g,r=mQ os ts us is no os' ts' us' is' no' d g/\SG os ts us is no os' ts' us' is' no' d g/\os.els=xo/\ts.els=xt/\us.els=xu/\is.els=xi/\os'.els=xo'/\ts'.els=xt'/\us'.els=xu'/\is'.els=xi'/\d.els=xd/\g.els=xg
theorem tM {k lo hi n:Nat} {s:Sto} {a:AV} {xs:List AV} {T:AV->Prop} (h:StN lo hi s a xs) (hn:n<=lo) (hT:Tk k T) (hx:∀ x∈xs,T x) (hl:xs.length<=1000):∃ a',Sl a' xs/\Frz s n a a':=by
 rcases h with ⟨rfl,rfl⟩ | ⟨id,g,c,rfl,hg,hlo,_⟩
 ·exact ⟨.nils,⟨.inl ⟨rfl,rfl⟩,by simp⟩,.und _ gM⟩
 ·refine ⟨.fz xs false,⟨.inr ⟨_,rfl⟩,by omega⟩,?_⟩
  have:=BI (S:=s) (n:=n) (cap:=c) (len:=xs.length) (Nat.le_trans hn hlo) hg (by rw [List.length_map]) (jS hT hx) (fun x hx' y hy=>by
   obtain ⟨z,hz,rfl⟩:=List.mem_map.1 hx'
   obtain ⟨hu,cs,rfl,_⟩:=hT z (hx z hz)
   exact ((jH hu y hy).mono (Nat.zero_le n)).und)
  rw [wR hT hx]at this
  exact this
theorem nS {lo hi n:Nat} {s:Sto} {a:AV} {xs:List AV} {T:AV->Prop} (h:StN lo hi s a xs) (hn:n<=lo) (hT:Tu T) (hx:∀ x∈xs,T x) (hl:xs.length<=1000):∃ a',Sl a' xs/\Frz s n a a':=by
 have hc:∀ x∈xs,x.isCell=true:=fun x h=>(hT x (hx x h)).2
 rcases h with ⟨rfl,rfl⟩ | ⟨id,g,c,rfl,h2,h3,_⟩
 ·exact ⟨.nils,⟨.inl ⟨rfl,rfl⟩,by simp⟩,.und _ gM⟩
 ·refine ⟨.fz xs false,⟨.inr ⟨_,rfl⟩,by omega⟩,?_⟩
  rw [gI hc]at h2
  refine sT (g:=g) (cs:=xs) (Nat.le_trans hn h3) h2 rfl (by omega) hc fun j x y hx' hy=>?_
  rw [Nat.zero_add]at hx'
  have he:some x=some y:=hx'.symm.trans hy
  cases he
  exact .und _ ((hT x (hx x (List.mem_of_getElem? hx'))).1.mono (Nat.zero_le _)).und
def ZZ (p os ts us is no:AV) (args:List AV) (s:Sto) (res:CRes):Prop:=∃ S id,args=[p,wg os ts us is no,wH]/\res=.ret (.ptr id 0 0) (some S)/\Sim s S/\OpenAt s.n S id (p.fld 0) (p.fld 1) (p.fld 2) (p.fld 3) ts us is no ts us is no os.els (List.replicate os.els.length bareA) (rS os.els.length) (rS os.els.length)/\bG Tryz.prog 40 args s res
theorem KI (hp:eN p) (hw:WG os ts us is no) (hsm:SmW (wg os ts us is no)) (s:Sto):∃ res,ZZ p os ts us is no [p,wg os ts us is no,wH] s res:=by
 obtain ⟨S,v,⟨h1,id,rfl,h2⟩,h3⟩:=VS hp hw hsm s
 exact ⟨_,{S with low:=Nat.min s.low S.low},id,rfl,rfl,⟨h1.1,fun i hi=>h1.2 i hi⟩,h2.sim (Sim.low S _),h3⟩
abbrev pW (p os ts us is no:AV):List kL:=[ent 39 nV,fV 40 (ZZ p os ts us is no),fV 32 GY]
theorem FJ:∀ x∈pW p os ts us is no,cI Tryz.prog x:=elist_cons mCheck_ok.ent (elist_cons (eD fun _ _ _ h=>by obtain ⟨_,_,_,_,_,_,h⟩:=h;exact h) (elist_cons (eD fun _ _ _ h=>by obtain ⟨_,_,_,_,_,_,_,_,_,_,_,_,_,_,_,_,_,_,_,_,_,_,_,h⟩:=h;exact h) aE))
set_option maxHeartbeats 4000000 in
theorem VG (hp:eN p) (hw:WG os ts us is no) (hsm:SmW (wg os ts us is no)):∃ r,Abs.Returns Tryz.prog 16 [p,wg os ts us is no] (.tuple [r,fP (jU p&&qD p (wg os ts us is no))])/\if (jU p&&qD p (wg os ts us is no))=true then IsS r (os.els.map cN) ts.els us.els is.els no (List.replicate os.els.length bareA) ts.els us.els is.els no (rS os.els.length) (rS os.els.length) else r=zO:=by
 have hu:=aA (dD p hp).1.und (aA hw.und.und aD)
 obtain ⟨c1,c2,c3,c4,c5⟩:=hw.cells
 have e1:nV [p,.agg [os,ts,us,is,no]]=some (fP (jU p&&qD p (wg os ts us is no))):=sg2_eq ⟨hp,hw.wd⟩
 have hq:∃ ns fs mm cs,p=.agg [ns,fs,mm,cs]/\ns.isCell=true/\fs.isCell=true/\mm.isCell=true/\cs.isCell=true:=by
  obtain ⟨ns,fs,mm,cs,rfl,a1,a2,a3,a4⟩:=hp
  exact ⟨ns,fs,mm,cs,rfl,(cS _ a1).2,(aL _ a2).2,(tu_int _ a3).2,(cZ _ a4).2⟩
 cases k:(jU p&&qD p (wg os ts us is no)) with
 | false=>
   refine ⟨zO,?_,by rw [if_neg (by decide)]⟩
   refine cB (L:=pW p os ts us is no) FJ aH (by kernel_rfl) Tryz.func16 Tryz.ntmps16 Tryz.results16 rfl rfl hu ?_
   rw [k]at e1
   obtain ⟨ns,fs,mm,cs,rfl,q1,q2,q3,q4⟩:=hq
   unfold wg
   simp +contextual +decide (maxSteps:=1000000) only [↓ wP,wQ,tf,Nat.reduceAdd,wS,c1,c2,c3,c4,c5,q1,q2,q3,q4,e1,fP,bE,Option.bind_some]
   exact .und _ (dJ (aA (UnderE.und ⟨2,rfl⟩) (aA aR aD)))
 | true=>
 rw [k]at e1
 simp only [if_true]
 have hlen:os.els.length<=1000:=hsm.1.1
 obtain ⟨res,⟨⟨n1,low1,o1⟩,id,_,rfl,hsim,⟨v1,v2,v3,v4,a,b,c,g1,s1,s2,s3,s4,z1,z2,z3,z4⟩,_⟩,he⟩:=jR (f:=40) (KI hp hw hsm ⟨3,0,((Tr.leaf.set 0 (aS 0 p.cells)).set 1 (aS 0 [os,ts,us,is,no])).set 2 (aS 0 [.nils,.nils,.nils,.nils,.int .i64 0,.nils,.nils,.nils,.nils,.int .i64 0,.nils,.nils])⟩)
 obtain ⟨ns,fs,mm,cs,rfl,q1,q2,q3,q4⟩:=hq
 have he':aV (pW (.agg [ns,fs,mm,cs]) os ts us is no) 40 [.agg [ns,fs,mm,cs],.agg [os,ts,us,is,no],wH] ⟨3,0,((Tr.leaf.set 0 (aS 0 [ns,fs,mm,cs])).set 1 (aS 0 [os,ts,us,is,no])).set 2 (aS 0 [.nils,.nils,.nils,.nils,.int .i64 0,.nils,.nils,.nils,.nils,.int .i64 0,.nils,.nils])⟩=some (.ret (.ptr id 0 0) (some ⟨n1,low1,o1⟩)):=by
  unfold pW;rw [lQ (by decide)];exact he _
 clear he
 have tI:=fun {a:AV} (h:eC a)=>(aL _ (aY h))
 have tO:=fun {a:AV} (h:TSl mY a)=>(bT _ (aY h))
 obtain ⟨w1,w2⟩:=tI hw.ts
 obtain ⟨w3,w4⟩:=tO hw.us
 obtain ⟨w5,w6⟩:=tI hw.is
 have w7:=(tu_int _ hw.no).1
 have y6:=jH (dD _ hp).1
 have hidn:id<n1:=Sto.get_lt g1
 obtain ⟨res,hcl,hce⟩:=jR (f:=32) (GZ ⟨n1,low1,o1⟩ g1 (by simp [uP,s1.cell,s2.cell,s3.cell,s4.cell,w2,w4,w6,c5,q1,q2,q3,q4,AV.fld]) (by
  intro x hx
  simp only [uP,List.mem_cons,List.not_mem_nil,or_false]at hx
  rcases hx with rfl | rfl | rfl | rfl | rfl | rfl | rfl | rfl | rfl | rfl | rfl | rfl | rfl | rfl | rfl | rfl
  ·exact s1.under
  ·exact w1.mono (Nat.zero_le _)
  ·exact w3.mono (Nat.zero_le _)
  ·exact w5.mono (Nat.zero_le _)
  ·exact w7.mono (Nat.zero_le _)
  ·exact (y6 _ (by simp)).mono (Nat.zero_le _)
  ·exact (y6 _ (by simp)).mono (Nat.zero_le _)
  ·exact (y6 _ (by simp)).mono (Nat.zero_le _)
  ·exact (y6 _ (by simp)).mono (Nat.zero_le _)
  ·exact s2.under
  ·exact w1.mono (Nat.zero_le _)
  ·exact w3.mono (Nat.zero_le _)
  ·exact w5.mono (Nat.zero_le _)
  ·exact w7.mono (Nat.zero_le _)
  ·exact s3.under
  ·exact s4.under))
 obtain ⟨⟨n2,low2,o2⟩,rfl,hs2⟩:=OW g1 hcl
 have hce':aV (pW (.agg [ns,fs,mm,cs]) os ts us is no) 32 [.ptr id 0 0] ⟨n1,low1,o1⟩=some (.ret (mQ v1 (aJ ts) (aJ us) (aJ is) no v2 (aJ ts) (aJ us) (aJ is) no v3 v4) (some ⟨n2,low2,o2⟩)):=by
  unfold pW;rw [lQ (by decide),bR (by decide)];exact hce _
 clear hce hcl
 have e1':∀ S,aV (pW (.agg [ns,fs,mm,cs]) os ts us is no) 39 [.agg [ns,fs,mm,cs],.agg [os,ts,us,is,no]] S=some (.ret (fP true) none):=fun S=>by
  unfold pW;simp [aV,ent,e1]<;>rfl
 generalize hLL:pW (.agg [ns,fs,mm,cs]) os ts us is no=LL at *
 unfold mQ at hce'
 have hn1:3<=n1:=hsim.1
 have hn2:n1<=n2:=hs2.1
 have hg2:o2.get 2=some (aS 0 [.nils,.nils,.nils,.nils,.int .i64 0,.nils,.nils,.nils,.nils,.int .i64 0,.nils,.nils]):=by
  have h1:=hsim.2 2 (show 2<3 by omega)
  rw [Sto.get_mk (show 2<n1 by omega),Sto.get_mk (show 2<3 by omega)]at h1
  have h2:=hs2.2 2 (show 2<n1 by omega)
  rw [Sto.get_mk (show 2<n2 by omega),Sto.get_mk (show 2<n1 by omega)]at h2
  rw [h2,h1];rfl
 have f2:=pZ (show 2<n2 by omega)
 have ys:=And.intro s1.cell (And.intro s2.cell (And.intro s3.cell s4.cell))
 have ho2:∀ j,3<=j->j<n1->(o2.set 2 (aS 0 [v1,aJ ts,aJ us,aJ is,no,v2,aJ ts,aJ us,aJ is,no,v3,v4])).get j=o1.get j:=fun j h1 h2=>by
  have:=hs2.2 j h2
  rw [Sto.get_mk (show j<n2 by omega),Sto.get_mk h2]at this
  rw [Tr.get_set_ne _ _ (by omega),this]
 have hk:∀ {lo hi:Nat} {a:AV} {xs:List AV},3<=lo->StN lo hi ⟨n1,low1,o1⟩ a xs->StN lo hi ⟨n2,Nat.min 2 low2,o2.set 2 (aS 0 [v1,aJ ts,aJ us,aJ is,no,v2,aJ ts,aJ us,aJ is,no,v3,v4])⟩ a xs:=fun hlo h=>h.keep fun j h1 h2 _=>by
  have h1':j<n1:=h1
  rw [Sto.get_mk (show j<n2 by omega),Sto.get_mk h1'];exact ho2 j (by omega) h1'
 have hz1:3<=a:=z1
 obtain ⟨a1,r1,t1⟩:=tM (n:=0) (hk (show 3<=3 by omega) s1) (Nat.zero_le _) tk_ob (pY fun x hx=>dT (bH hw.os x hx)) (by rw [List.length_map];exact hlen)
 obtain ⟨a2,r2,t2⟩:=tM (n:=0) (hk hz1 s2) (Nat.zero_le _) tk_ob (T:=nP) (fun x hx=>by
  obtain ⟨y,hy,rfl⟩:=List.mem_map.1 hx
  rw [(List.mem_replicate.1 hy).2];exact dT pC) (by simp;exact hlen)
 obtain ⟨a3,r3,t3⟩:=nS (n:=0) (hk (by omega) s3) (Nat.zero_le _) tu_bool eS (by rw [iL];exact hlen)
 obtain ⟨a4,r4,t4⟩:=nS (n:=0) (hk (by omega) s4) (Nat.zero_le _) tu_bool eS (by rw [iL];exact hlen)
 have ht1:TSl nP a1:=⟨_,r1,pY fun x hx=>dT (bH hw.os x hx)⟩
 have ht2:TSl nP a2:=⟨_,r2,fun x hx=>by
  obtain ⟨y,hy,rfl⟩:=List.mem_map.1 hx
  rw [(List.mem_replicate.1 hy).2];exact dT pC⟩
 refine ⟨mQ a1 (aJ ts) (aJ us) (aJ is) no a2 (aJ ts) (aJ us) (aJ is) no a3 a4,?_,a1,_,_,_,a2,_,_,_,a3,a4,rfl,⟨⟨ht1,aY hw.ts,aY hw.us,aY hw.is,hw.no⟩,⟨ht2,aY hw.ts,aY hw.us,aY hw.is,hw.no⟩,⟨_,r3,eS⟩,⟨_,r4,eS⟩⟩,r1.els,dQ hw.ts,dQ hw.us,dQ hw.is,?_,dQ hw.ts,dQ hw.us,dQ hw.is,r3.els,r4.els⟩
 rotate_left
 ·rw [r2.els,List.map_replicate];rfl
 refine cB (L:=LL) (hLL ▸ FJ) aH (by kernel_rfl) Tryz.func16 Tryz.ntmps16 Tryz.results16 rfl rfl hu ?_
 unfold wg
 simp +contextual +decide (maxSteps:=1000000) only [↓ wP,wQ,tf,Nat.reduceAdd,wS,c1,c2,c3,c4,c5,q1,q2,q3,q4,e1',he',hce',hg2,f2,ys,w2,w4,w6,fP,bE,Option.bind_some]
 refine .tuple _ _ rfl (aM (.agg _ _ rfl ?_) (aM (.und _ aR) fJ))
 have U:∀ {x:AV},UnderE 0 x->Frz ⟨n2,Nat.min 2 low2,o2.set 2 (aS 0 [v1,aJ ts,aJ us,aJ is,no,v2,aJ ts,aJ us,aJ is,no,v3,v4])⟩ 0 x x:=fun h=>.und _ h.und
 exact aM t1 (aM (U w1) (aM (U w3) (aM (U w5) (aM (U w7) (aM t2 (aM (U w1) (aM (U w3) (aM (U w5) (aM (U w7) (aM t3 (aM t4 fJ)))))))))))
end
theorem aOg:msK Tryz.prog 27=some (4,64,[.int .i64 0,.int .i64 0,.nils,.nils]):=by kernel_rfl
theorem FK {n:Nat}:dS [.int .i64 0,.int .i64 0,.nils,.nils] n=((List.replicate n bareA).map AV.cells).flatten:=by
 induction n with
 | zero=>rfl
 | succ n ih=>rw [dS,ih,List.replicate_succ,List.map_cons,List.flatten_cons];rfl
theorem rQ {n:Nat}:∀ x∈List.replicate n bareA,nP x:=fun x hx=>by rw [(List.mem_replicate.1 hx).2];exact pC
theorem VH {O:cA} {lo co:Operand} {e:Env} {K:ORes->Prop} {n:Nat} (hn:n<=1000) (hl:e.eval lo=.int .i64 (n:Nat)) (hc:e.eval co=.int .i64 (n:Nat)):
 dU Tryz.prog O (.makeSlice 27 lo co) e K↔K (.val' (.sl e.s.n 0 0 n (.is n)) (e.s.push (aS 0 ((List.replicate n bareA).map AV.cells).flatten))):=by
 have h:=oS (O:=O) (e:=e) (K:=fun r=>r=.val' (.sl e.s.n 0 0 n (.is n)) (e.s.push (aS 0 ((List.replicate n bareA).map AV.cells).flatten))) aOg hl hc (Nat.le_refl n) (by omega) (by omega) (by rw [FK];exact gW (mO tk_ob rQ)) (by rw [FK];rfl)
 obtain ⟨m,r,h1,h2⟩:=h
 constructor
 ·rintro ⟨m',r',h1',h2'⟩
  have:dW Tryz.prog (aO Tryz.prog O m') (.makeSlice 27 lo co) e=dW Tryz.prog (aO Tryz.prog O m) (.makeSlice 27 lo co) e:=rfl
  rw [this,h1]at h1'
  cases h1'
  rw [h2]at h2';exact h2'
 ·intro h;exact ⟨m,r,h1,by rw [h2];exact h⟩
section
variable {p os ts us is no os' ts' us' is' no' d g:AV}
def wF (p os ts us is no os' ts' us' is' no' d g:AV):AV:=if (eL p&&jE p os ts us is no os' ts' us' is' no' d g)=true then .tuple [gS os os' d ts' us' is' no',.int .i64 0] else .tuple [KH,.int .i64 2]
theorem OL (h:jE p os ts us is no os' ts' us' is' no' d g=true):os'.els.length<=os.els.length/\d.els.length=os'.els.length:=by
 simp only [jE,Bool.and_eq_true,decide_eq_true_eq]at h;exact ⟨h.2.1,h.2.2.1⟩
theorem OM (h:PS p os ts us is no os' ts' us' is' no' d g):Abs.Returns Tryz.prog 19 [p,mQ os ts us is no os' ts' us' is' no' d g] (wF p os ts us is no os' ts' us' is' no' d g):=by
 have hu:=h.und
 obtain ⟨c1,c2,c3,c4,c5⟩:=h.hs.w.cells
 obtain ⟨c6,c7,c8,c9,c10⟩:=h.hs.s.cells
 obtain ⟨c11,c12⟩:=h.hs.cells
 obtain ⟨hp,hm,hs,hso,hso'⟩:=h
 have e5:JZ [p,.agg [os,ts,us,is,no,os',ts',us',is',no',d,g]]=some (fP (eL p&&jE p os ts us is no os' ts' us' is' no' d g)):=sg2_eq (b:=mQ os ts us is no os' ts' us' is' no' d g) ⟨⟨hp,hm⟩,os,ts,us,is,no,os',ts',us',is',no',d,g,rfl,hs⟩
 have hq:∃ ns fs mm cs,p=.agg [ns,fs,mm,cs]/\ns.isCell=true/\fs.isCell=true/\mm.isCell=true/\cs.isCell=true:=by
  obtain ⟨ns,fs,mm,cs,rfl,a1,a2,a3,a4⟩:=hp
  exact ⟨ns,fs,mm,cs,rfl,(cS _ a1).2,(aL _ a2).2,(tu_int _ a3).2,(cZ _ a4).2⟩
 refine cB (L:=[ent 14 JZ,ent 45 EN]) (elist_cons rcheckV_ok.ent (elist_cons begunV_ok.ent aE)) aH (by kernel_rfl) Tryz.func19 Tryz.ntmps19 Tryz.results19 rfl rfl hu ?_
 rw [wF]
 cases hB:(eL p&&jE p os ts us is no os' ts' us' is' no' d g) with
 | false=>
   rw [hB]at e5
   obtain ⟨ns,fs,mm,cs,rfl,q1,q2,q3,q4⟩:=hq
   unfold mQ
   simp +contextual +decide (maxSteps:=1000000) only [↓ wP,wQ,tf,Nat.reduceAdd,wS,c1,c2,c3,c4,c5,c6,c7,c8,c9,c10,c11,c12,q1,q2,q3,q4,e5,fP,bE,Option.bind_some]
   exact .und _ (dJ (aA (UnderE.und ⟨2,rfl⟩) (aA aR aD)))
 | true=>
   rw [hB]at e5
   have hl:=OL (Bool.and_eq_true _ _ ▸ hB:eL p=true/\_).2
   have e2:EN [.agg [os,ts,us,is,no,os',ts',us',is',no',d,g]]=some (gS os os' d ts' us' is' no'):=bQ (a:=mQ os ts us is no os' ts' us' is' no' d g) ⟨os,ts,us,is,no,os',ts',us',is',no',d,g,rfl,hs,hl.1,hl.2⟩
   have hbt:=zN hs hl.1
   have hbu:=(nX _ hbt).1
   obtain ⟨w1,w2,w3,w4,w5,hw,d1,d2,d3,d4,d5⟩:=hbt
   have k1:=(fT _ d1).2
   have k2:=(aL _ d2).2
   have k3:=(bT _ d3).2
   have k4:=(aL _ d4).2
   have k5:=(tu_int _ d5).2
   rw [hw]at e2 hbu ⊢
   obtain ⟨ns,fs,mm,cs,rfl,q1,q2,q3,q4⟩:=hq
   unfold mQ
   simp +contextual +decide (maxSteps:=1000000) only [↓ wP,wQ,tf,Nat.reduceAdd,wS,c1,c2,c3,c4,c5,c6,c7,c8,c9,c10,c11,c12,q1,q2,q3,q4,e5,e2,k1,k2,k3,k4,k5,fP,bE,Option.bind_some]
   exact .und _ (dJ (aA hbu.und (aA aR aD)))
def VI (k lo:Nat) (v:AV) (n:Nat) (o:Tr AObj) (len:Nat) (flat:List AV):Prop:=(len=0/\v=.nils)∨(len≠0/\∃ id g,v=.sl id g 0 len (.room k)/\o.get id=some (aS g flat)/\id<n/\lo<=id)
theorem AW {k lo n:Nat} {v:AV} {o:Tr AObj} {xs:List AV} (h:AccM k lo v n o (xs.map AV.cells)):VI k lo v n o xs.length (xs.map AV.cells).flatten:=by
 rcases h with ⟨h1,h2⟩ | ⟨h1,id,g,h2,h3⟩
 ·exact .inl ⟨by rw [<-List.length_map (f:=AV.cells),h1];rfl,h2⟩
 ·exact .inr ⟨fun e=>h1 (by rw [List.length_eq_zero_iff.1 e];rfl),id,g,by rw [List.length_map]at h2;exact h2,h3⟩
theorem AX {k lo n:Nat} {v:AV} {o:Tr AObj} {xs:List AV} (h:VI k lo v n o xs.length (xs.map AV.cells).flatten):AccM k lo v n o (xs.map AV.cells):=by
 rcases h with ⟨h1,h2⟩ | ⟨h1,id,g,h2,h3⟩
 ·exact .inl ⟨by rw [List.length_eq_zero_iff.1 h1];rfl,h2⟩
 ·exact .inr ⟨fun e=>h1 (by rw [<-List.length_map (f:=AV.cells),e];rfl),id,g,by rw [List.length_map];exact h2,h3⟩
def RRG (args:List AV) (s:Sto) (res:CRes):Prop:=∃ (os ts us is no:AV) (S:Sto) (a b c d:AV) (n1 n2 n3 n4:Nat) (f1 f2 f3 f4:List AV),args=[wg os ts us is no]/\BL s 4 os=some (n1,f1)/\BL s 1 ts=some (n2,f2)/\BL s 2 us=some (n3,f3)/\BL s 1 is=some (n4,f4)/\res=.ret (.agg [a,b,c,d,no]) (some S)/\Sim s S/\VI 4 s.n a S.n S.o n1 f1/\VI 1 s.n b S.n S.o n2 f2/\VI 2 s.n c S.n S.o n3 f3/\VI 1 s.n d S.n S.o n4 f4/\bG Tryz.prog 43 args s res
structure ApW (s:Sto) (os ts us is:AV) (xo xt xu xi:List AV):Prop where
 o:ApY s 4 os xo
 t:ApY s 1 ts xt
 u:ApY s 2 us xu
 i:ApY s 1 is xi
 lo:xo.length<=1000
 lt:xt.length<=1000
 lu:xu.length<=1000
 li:xi.length<=1000
 ho:∀ x∈xo,nP x
 ht:∀ x∈xt,cP x
 hu:∀ x∈xu,mY x
 hi:∀ x∈xi,cP x
theorem aAa {os ts us is no:AV} {xo xt xu xi:List AV} (s:Sto) (h:ApW s os ts us is xo xt xu xi) (hn:cP no):∃ res,RRG [wg os ts us is no] s res:=by
 obtain ⟨S,v,⟨_,h2,a,b,c,d,rfl,w1,w2,w3,w4⟩,h4⟩:=FO s h.o h.t h.u h.i hn h.lo h.lt h.lu h.li (gW (mO tk_ob h.ho)) (gW (oJ tu_int h.ht)) (gW (mO tk_out h.hu)) (gW (oJ tu_int h.hi))
 exact ⟨_,os,ts,us,is,no,{S with low:=Nat.min s.low S.low},a,b,c,d,_,_,_,_,_,_,_,_,rfl,h.o.2.2.1 s (Sim.refl s),h.t.2.2.1 s (Sim.refl s),h.u.2.2.1 s (Sim.refl s),h.i.2.2.1 s (Sim.refl s),rfl,⟨h2.1,fun id hid=>h2.2 id hid⟩,AW w1,AW w2,AW w3,AW w4,h4⟩
theorem aLi {os ts us is no:AV} {xo xt xu xi:List AV} {s:Sto} (h:ApW s os ts us is xo xt xu xi) {res:CRes} (hr:RRG [wg os ts us is no] s res):∃ S a b c d,res=.ret (.agg [a,b,c,d,no]) (some S)/\Sim s S/\AccM 4 s.n a S.n S.o (xo.map AV.cells)/\AccM 1 s.n b S.n S.o (xt.map AV.cells)/\AccM 2 s.n c S.n S.o (xu.map AV.cells)/\AccM 1 s.n d S.n S.o (xi.map AV.cells):=by
 obtain ⟨_,_,_,_,_,S,a,b,c,d,_,_,_,_,_,_,_,_,e,q1,q2,q3,q4,rfl,hs,w1,w2,w3,w4,_⟩:=hr
 simp only [wg,List.cons.injEq,AV.agg.injEq,and_true]at e
 obtain ⟨rfl,rfl,rfl,rfl,rfl⟩:=e
 rw [h.o.2.2.1 s (Sim.refl s)]at q1;cases q1
 rw [h.t.2.2.1 s (Sim.refl s)]at q2;cases q2
 rw [h.u.2.2.1 s (Sim.refl s)]at q3;cases q3
 rw [h.i.2.2.1 s (Sim.refl s)]at q4;cases q4
 exact ⟨S,a,b,c,d,rfl,hs,AX w1,AX w2,AX w3,AX w4⟩
theorem aLj (s:Sto) (hw:WG os ts us is no) (hsm:SmW (wg os ts us is no)):ApW s os ts us is os.els ts.els us.els is.els:=by
 obtain ⟨⟨s1,s2⟩,s3,s4,s5⟩:=hsm
 have f:∀ {T:AV->Prop} {a:AV},TSl T a->Sl a a.els:=fun ⟨xs,hs,_⟩=>by rw [hs.els];exact hs
 exact ⟨ApY.sl (f hw.os) (fT _ hw.os).1 (mO tk_ob (bH hw.os)),ApY.sl (f hw.ts) (aL _ hw.ts).1 (oJ tu_int (bH hw.ts)),ApY.sl (f hw.us) (bT _ hw.us).1 (mO tk_out (bH hw.us)),ApY.sl (f hw.is) (aL _ hw.is).1 (oJ tu_int (bH hw.is)),s1,s3,s4,s5,bH hw.os,bH hw.ts,bH hw.us,bH hw.is⟩
abbrev gU:List kL:=[ent 36 tL,ent 42 tT,fV 43 RRG]
theorem vC:∀ x∈gU,cI Tryz.prog x:=elist_cons rformedV_ok.ent (elist_cons rWorld_ok.ent (elist_cons (eD fun _ _ _ h=>by obtain ⟨_,_,_,_,_,_,_,_,_,_,_,_,_,_,_,_,_,_,_,_,_,_,_,_,_,_,_,_,_,h⟩:=h;exact h) aE))
theorem TA {os ts us is no:AV} {xo xt xu xi:List AV} (s:Sto) (h:ApW s os ts us is xo xt xu xi) (hn:cP no):∃ S a b c d,aV gU 43 [.agg [os,ts,us,is,no]] s=some (.ret (.agg [a,b,c,d,no]) (some S))/\Sim s S/\AccM 4 s.n a S.n S.o (xo.map AV.cells)/\AccM 1 s.n b S.n S.o (xt.map AV.cells)/\AccM 2 s.n c S.n S.o (xu.map AV.cells)/\AccM 1 s.n d S.n S.o (xi.map AV.cells):=by
 obtain ⟨res,h1,h2⟩:=jR (f:=43) (aAa s h hn)
 obtain ⟨S,a,b,c,d,rfl,q⟩:=aLi h h1
 refine ⟨S,a,b,c,d,?_,q⟩
 unfold gU;rw [lQ (by decide),lQ (by decide)];exact h2 _
end
section
variable {p os ts us is no os' ts' us' is' no' d g:AV}
def hRB (n:Nat):dR:=fun r=>bif Nat.beq r 6 then ([],[1000,mP n,12]) else ([],[])
theorem aQu {n:Nat}:hRB n 6=([],[1000,mP n,12])/\hRB n 0=([],[])/\hRB n 1=([],[]):=⟨rfl,rfl,rfl⟩
set_option maxHeartbeats 8000000 in
theorem ON (hp:eN p) (hm:SmP p) (hw:WG os ts us is no) (hsm:SmW (wg os ts us is no)):∃ r,Abs.Returns Tryz.prog 17 [p,wg os ts us is no] (.tuple [r,fP (eL p&&jP p (wg os ts us is no))])/\if (eL p&&jP p (wg os ts us is no))=true then IsS r os.els ts.els us.els is.els no (List.replicate os.els.length bareA) ts.els us.els is.els no (rS os.els.length) (rS os.els.length) else r=zO:=by
 have hu:=aA (dD p hp).1.und (aA hw.und.und aD)
 obtain ⟨c1,c2,c3,c4,c5⟩:=hw.cells
 have e0:tL [p]=some (.bool (eL p)):=bQ ⟨hp,hm⟩
 have e1:tT [p,.agg [os,ts,us,is,no]]=some (.bool (jP p (wg os ts us is no))):=sg2_eq ⟨hp,hw.wd⟩
 have hq:∃ ns fs mm cs,p=.agg [ns,fs,mm,cs]/\ns.isCell=true/\fs.isCell=true/\mm.isCell=true/\cs.isCell=true:=by
  obtain ⟨ns,fs,mm,cs,rfl,a1,a2,a3,a4⟩:=hp
  exact ⟨ns,fs,mm,cs,rfl,(cS _ a1).2,(aL _ a2).2,(tu_int _ a3).2,(cZ _ a4).2⟩
 have l1:∀ S,aV gU 36 [p] S=some (.ret (.bool (eL p)) none):=fun S=>by
  unfold gU;simp [aV,ent,e0]<;>rfl
 have l2:∀ S,aV gU 42 [p,.agg [os,ts,us,is,no]] S=some (.ret (.bool (jP p (wg os ts us is no))) none):=fun S=>by
  unfold gU;rw [lQ (by decide)];simp [aV,ent,e1]<;>rfl
 clear e0 e1
 cases k1:eL p with
 | false=>
   rw [Bool.false_and]
   refine ⟨zO,?_,by rw [if_neg (by decide)]⟩
   refine cB (L:=gU) vC (fun r=>(bif Nat.beq r 6 then [2] else [],[])) (by kernel_rfl) Tryz.func17 Tryz.ntmps17 Tryz.results17 rfl rfl hu ?_
   rw [k1]at l1
   obtain ⟨ns,fs,mm,cs,rfl,q1,q2,q3,q4⟩:=hq
   generalize gU=LL at *
   unfold wg
   simp +contextual +decide (maxSteps:=1000000) only [↓ wP,wQ,tf,Nat.reduceAdd,wS,c1,c2,c3,c4,c5,q1,q2,q3,q4,l1,fP,bE,Option.bind_some]
   exact .und _ (dJ (aA (UnderE.und ⟨2,rfl⟩) (aA aR aD)))
 | true=>
 rw [k1]at l1
 cases k2:jP p (wg os ts us is no) with
 | false=>
   rw [Bool.and_false]
   refine ⟨zO,?_,by rw [if_neg (by decide)]⟩
   refine cB (L:=gU) vC (fun r=>(bif Nat.beq r 6 then [2] else [],[])) (by kernel_rfl) Tryz.func17 Tryz.ntmps17 Tryz.results17 rfl rfl hu ?_
   rw [k2]at l2
   obtain ⟨ns,fs,mm,cs,rfl,q1,q2,q3,q4⟩:=hq
   generalize gU=LL at *
   unfold wg
   simp +contextual +decide (maxSteps:=1000000) only [↓ wP,wQ,tf,Nat.reduceAdd,wS,c1,c2,c3,c4,c5,q1,q2,q3,q4,l1,l2,fP,bE,Option.bind_some]
   exact .und _ (dJ (aA (UnderE.und ⟨2,rfl⟩) (aA aR aD)))
 | true=>
 rw [k2]at l2
 have hlen:os.els.length<=1000:=hsm.1.1
 obtain ⟨⟨m1,low1,o1⟩,a,b,c,e,he1,hs1,A1,A2,A3,A4⟩:=TA ⟨3,0,((Tr.leaf.set 0 (aS 0 p.cells)).set 1 (aS 0 [os,ts,us,is,no])).set 2 (aS 0 [.nils,.nils,.nils,.nils,.int .i64 0,.nils,.nils,.nils,.nils,.int .i64 0,.nils,.nils])⟩ (aLj _ hw hsm) hw.no
 have hm1:3<=m1:=hs1.1
 have b1:StN 3 m1 ⟨m1,low1,o1⟩ a os.els:=StN.acc A1
 have b2:StN 3 m1 ⟨m1,low1,o1⟩ b ts.els:=StN.acc A2
 have b3:StN 3 m1 ⟨m1,low1,o1⟩ c us.els:=StN.acc A3
 have b4:StN 3 m1 ⟨m1,low1,o1⟩ e is.els:=StN.acc A4
 have hgt:∀ {n low n' low':Nat} {o o':Tr AObj},Sim ⟨n,low,o⟩ ⟨n',low',o'⟩->∀ {i:Nat} {x:AObj},i<n->o.get i=some x->o'.get i=some x:=fun {n low n' low' o o'} hs {i x} hi hx=>by
  have h1:=hs.2 i hi
  have hn:n<=n':=hs.1
  rw [Sto.get_mk (show i<n' by omega),Sto.get_mk hi]at h1
  exact h1.trans hx
 obtain ⟨ns,fs,mm,cs,rfl,q1,q2,q3,q4⟩:=hq
 have g10:o1.get 0=some (aS 0 [ns,fs,mm,cs]):=hgt hs1 (by omega) rfl
 have g11:o1.get 1=some (aS 0 [os,ts,us,is,no]):=hgt hs1 (by omega) rfl
 have g12:o1.get 2=some (aS 0 [.nils,.nils,.nils,.nils,.int .i64 0,.nils,.nils,.nils,.nils,.int .i64 0,.nils,.nils]):=hgt hs1 (by omega) rfl
 have f0:=pZ (show 0<m1 by omega)
 have f1:=pZ (show 1<m1 by omega)
 have f2:=pZ (show 2<m1 by omega)
 have yc:=And.intro b1.cell (And.intro b2.cell (And.intro b3.cell b4.cell))
 have nl:=fun {s:Sto} {d:Option ORes}=>b1.len (s':=s) (d:=d)
 have hn0:(AV.agg [ns,fs,mm,cs]).cells=[ns,fs,mm,cs]:=rfl
 rw [hn0]at he1
 generalize hX:((((o1.set 1 (aS 0 [a,b,c,e,no])).set m1 (aS 0 [.nils,.nils,.nils,.nils,.int .i64 0])).set m1 (aS 0 [a,b,c,e,no])).set (m1+1) (aS 0 ((List.replicate os.els.length bareA).map AV.cells).flatten)).set m1 (aS 0 [.sl (m1+1) 0 0 os.els.length (.is os.els.length),b,c,e,no])=X
 have hXo:∀ j,j≠1->j<m1->X.get j=o1.get j:=fun j h1 h2=>by
  rw [<-hX,Tr.get_set_ne _ _ (by omega),Tr.get_set_ne _ _ (by omega),Tr.get_set_ne _ _ (by omega),Tr.get_set_ne _ _ (by omega),Tr.get_set_ne _ _ (by omega)]
 have hX1:X.get 1=some (aS 0 [a,b,c,e,no]):=by
  rw [<-hX,Tr.get_set_ne _ _ (by omega),Tr.get_set_ne _ _ (by omega),Tr.get_set_ne _ _ (by omega),Tr.get_set_ne _ _ (by omega)];exact Tr.get_set_same _ _ _
 have hXm:X.get m1=some (aS 0 [.sl (m1+1) 0 0 os.els.length (.is os.els.length),b,c,e,no]):=by rw [<-hX];exact Tr.get_set_same _ _ _
 have hXn:X.get (m1+1)=some (aS 0 ((List.replicate os.els.length bareA).map AV.cells).flatten):=by
  rw [<-hX,Tr.get_set_ne _ _ (by omega)];exact Tr.get_set_same _ _ _
 have hXk:∀ {low hi:Nat} {v:AV} {xs:List AV},StN 3 m1 ⟨m1,low1,o1⟩ v xs->StN 3 m1 ⟨m1+1+1,low,X⟩ v xs:=fun h=>h.keep fun j h1 h2 h3=>by
  rw [Sto.get_mk (show j<m1+1+1 by omega),Sto.get_mk h3];exact hXo j (by omega) h3
 have hXs:∀ low,StN (m1+1) (m1+1+1) ⟨m1+1+1,low,X⟩ (.sl (m1+1) 0 0 os.els.length (.is os.els.length)) (List.replicate os.els.length bareA):=fun low=>.inr ⟨m1+1,0,_,by rw [List.length_replicate],by rw [Sto.get_mk (Nat.lt_succ_self _)];exact hXn,Nat.le_refl _,Nat.lt_succ_self _⟩
 have hap:∀ low,ApW ⟨m1+1+1,low,X⟩ (.sl (m1+1) 0 0 os.els.length (.is os.els.length)) b c e (List.replicate os.els.length bareA) ts.els us.els is.els:=fun low=>
  ⟨ApY.stn (hXs low) (mO tk_ob rQ),ApY.stn (hXk (hi:=0) b2) (oJ tu_int (bH hw.ts)),ApY.stn (hXk (hi:=0) b3) (mO tk_out (bH hw.us)),ApY.stn (hXk (hi:=0) b4) (oJ tu_int (bH hw.is)),by rw [List.length_replicate];exact hlen,hsm.2.1,hsm.2.2.1,hsm.2.2.2,rQ,bH hw.ts,bH hw.us,bH hw.is⟩
 obtain ⟨⟨m2,low2,o2⟩,a',b',c',e',he2,hs2,B1,B2,B3,B4⟩:=TA _ (hap (Nat.min m1 (Nat.min m1 (Nat.min 1 low1)))) hw.no
 have hm2:m1+1+1<=m2:=hs2.1
 have d1:StN (m1+1+1) m2 ⟨m2,low2,o2⟩ a' (List.replicate os.els.length bareA):=StN.acc B1
 have d2:StN (m1+1+1) m2 ⟨m2,low2,o2⟩ b' ts.els:=StN.acc B2
 have d3:StN (m1+1+1) m2 ⟨m2,low2,o2⟩ c' us.els:=StN.acc B3
 have d4:StN (m1+1+1) m2 ⟨m2,low2,o2⟩ e' is.els:=StN.acc B4
 have g21:=hgt hs2 (show 1<m1+1+1 by omega) hX1
 have g2m:=hgt hs2 (show m1<m1+1+1 by omega) hXm
 have g22:=hgt hs2 (show 2<m1+1+1 by omega) ((hXo 2 (by omega) (by omega)).trans g12)
 have g20:=hgt hs2 (show 0<m1+1+1 by omega) ((hXo 0 (by omega) (by omega)).trans g10)
 have x1:=pZ (show 1<m2 by omega)
 have x2:=pZ (show 2<m2 by omega)
 have x0:=pZ (show 0<m2 by omega)
 have xm:=pZ (show m1<m2 by omega)
 have z1:=pZ (show 1<m1+1+1 by omega)
 have z2:=pZ (show 2<m1+1+1 by omega)
 have hkp:∀ {x n low n' low':Nat} {o o':Tr AObj},x<=n->Sim ⟨n,low,o⟩ ⟨n',low',o'⟩->iG x ⟨n,low,o⟩ ⟨n',low',o'⟩:=fun hn hs id hid=>hs.2 id (Nat.lt_of_lt_of_le hid hn)
 have kp2:=hkp (show xK (m1+1+1) (m1+1+1)<=m1+1+1 from Nat.min_le_left _ _) hs2
 have hps:∀ {n low low':Nat} {o:Tr AObj} {v:AObj},m1+1+1<=n->iG (xK (m1+1+1) (m1+1+1)) ⟨n,low,o⟩ ⟨n+1,low',o.set n v⟩:=fun {n low low' o v} hn id hid=>by
  have hid':id<m1+1+1:=Nat.lt_of_lt_of_le hid (Nat.min_le_left _ _)
  rw [Sto.get_mk (show id<n+1 by omega),Sto.get_mk (show id<n by omega),Tr.get_set_ne _ _ (by omega)]
 have x6:m1+1+1<=m2/\m1+1+1<=m2+1/\m1+1+1<=m2+1+1:=by omega
 have yd:=And.intro d1.cell (And.intro d2.cell (And.intro d3.cell d4.cell))
 have yu:∀ {m:Nat},m1+1+1<=m->UnderE m a/\UnderE m b/\UnderE m c/\UnderE m e:=fun h=>⟨b1.under.mono (show m1<=_ by omega),b2.under.mono (show m1<=_ by omega),b3.under.mono (show m1<=_ by omega),b4.under.mono (show m1<=_ by omega)⟩
 have yv:∀ {m:Nat},m2<=m->UnderE m a'/\UnderE m b'/\UnderE m c'/\UnderE m e':=fun h=>⟨d1.under.mono h,d2.under.mono h,d3.under.mono h,d4.under.mono h⟩
 have y1:=yu (show m1+1+1<=m1+1+1 from Nat.le_refl _)
 have y2:=yu (show m1+1+1<=m2+1+1 by omega)
 have y3:=yv (show m2<=m2+1+1 by omega)
 have y4:∀ {m:Nat},UnderE m no:=fun {m}=>(tu_int _ hw.no).1.mono (Nat.zero_le _)
 have sA:∀ {l:List Nat} {ns:List (Nat × Nat)} {i:Nat},eE (keptY (xK (m1+1+1) (m1+1+1)) l ns i) a:=fun {l ns i}=>by
  rcases b1 with ⟨rfl,_⟩ | ⟨id,g,cc,rfl,_,_,h⟩
  ·trivial
  ·exact .inl (show id<Nat.min (m1+1+1) (m1+1+1) from Nat.lt_min.2 ⟨by omega,by omega⟩)
 generalize hY:((o2.set m2 (aS 0 (gC os.els.length []))).set (m2+1) (aS 0 (gC os.els.length []))).set 2 (aS 0 [a,b,c,e,no,a',b',c',e',no,.sl m2 0 0 os.els.length (.is os.els.length),.sl (m2+1) 0 0 os.els.length (.is os.els.length)])=Y
 have hYo:∀ j,3<=j->j<m2->Y.get j=o2.get j:=fun j h1 h2=>by
  rw [<-hY,Tr.get_set_ne _ _ (by omega),Tr.get_set_ne _ _ (by omega),Tr.get_set_ne _ _ (by omega)]
 have hYk:∀ {lo hi:Nat} {v:AV} {xs:List AV},3<=lo->StN lo hi ⟨m2,low2,o2⟩ v xs->StN lo hi ⟨m2+1+1,Nat.min 2 low2,Y⟩ v xs:=fun h0 h=>h.keep fun j h1 h2 h3=>by
  have h1':j<m2:=h1
  rw [Sto.get_mk (show j<m2+1+1 by omega),Sto.get_mk h1'];exact hYo j (by omega) h1'
 have hXY:∀ {v:AV} {xs:List AV},StN 3 m1 ⟨m1,low1,o1⟩ v xs->StN 3 m1 ⟨m1+1+1,Nat.min m1 (Nat.min m1 (Nat.min 1 low1)),X⟩ v xs:=fun h=>hXk (hi:=0) h
 have hD:∀ k,k=m2∨k=m2+1->StN k (k+1) ⟨m2+1+1,Nat.min 2 low2,Y⟩ (.sl k 0 0 os.els.length (.is os.els.length)) (gC os.els.length []):=fun k hk=>by
  refine .inr ⟨k,0,_,by rw [iL],?_,Nat.le_refl _,Nat.lt_succ_self _⟩
  rw [Sto.get_mk (by omega),gI fun x hx=>(tu_bool x (eS x hx)).2,<-hY,Tr.get_set_ne _ _ (by omega)]
  rcases hk with rfl | rfl
  ·rw [Tr.get_set_ne _ _ (by omega)];exact Tr.get_set_same _ _ _
  ·exact Tr.get_set_same _ _ _
 obtain ⟨r1,s1,t1⟩:=tM (n:=0) (hYk (Nat.le_refl _) ((hXY b1).sim hs2)) (Nat.zero_le _) tk_ob (bH hw.os) hlen
 obtain ⟨r2,s2,t2⟩:=nS (n:=0) (hYk (Nat.le_refl _) ((hXY b2).sim hs2)) (Nat.zero_le _) tu_int (bH hw.ts) hsm.2.1
 obtain ⟨r3,s3,t3⟩:=tM (n:=0) (hYk (Nat.le_refl _) ((hXY b3).sim hs2)) (Nat.zero_le _) tk_out (bH hw.us) hsm.2.2.1
 obtain ⟨r4,s4,t4⟩:=nS (n:=0) (hYk (Nat.le_refl _) ((hXY b4).sim hs2)) (Nat.zero_le _) tu_int (bH hw.is) hsm.2.2.2
 obtain ⟨r5,s5,t5⟩:=tM (n:=0) (hYk (by omega) d1) (Nat.zero_le _) tk_ob rQ (by rw [List.length_replicate];exact hlen)
 obtain ⟨r6,s6,t6⟩:=nS (n:=0) (hYk (by omega) d2) (Nat.zero_le _) tu_int (bH hw.ts) hsm.2.1
 obtain ⟨r7,s7,t7⟩:=tM (n:=0) (hYk (by omega) d3) (Nat.zero_le _) tk_out (bH hw.us) hsm.2.2.1
 obtain ⟨r8,s8,t8⟩:=nS (n:=0) (hYk (by omega) d4) (Nat.zero_le _) tu_int (bH hw.is) hsm.2.2.2
 obtain ⟨r9,s9,t9⟩:=nS (n:=0) (hD m2 (.inl rfl)) (Nat.zero_le _) tu_bool eS (by rw [iL];exact hlen)
 obtain ⟨r10,s10,KE⟩:=nS (n:=0) (hD (m2+1) (.inr rfl)) (Nat.zero_le _) tu_bool eS (by rw [iL];exact hlen)
 have M:∀ {T:AV->Prop} {r:AV} {xs:List AV},Sl r xs->(∀ x∈xs,T x)->TSl T r:=fun h1 h2=>⟨_,h1,h2⟩
 refine ⟨mQ r1 r2 r3 r4 no r5 r6 r7 r8 no r9 r10,?_,?_⟩
 rotate_left
 ·rw [if_pos (by decide)]
  exact ⟨r1,r2,r3,r4,r5,r6,r7,r8,r9,r10,rfl,⟨⟨M s1 (bH hw.os),M s2 (bH hw.ts),M s3 (bH hw.us),M s4 (bH hw.is),hw.no⟩,⟨M s5 rQ,M s6 (bH hw.ts),M s7 (bH hw.us),M s8 (bH hw.is),hw.no⟩,M s9 eS,M s10 eS⟩,s1.els,s2.els,s3.els,s4.els,s5.els,s6.els,s7.els,s8.els,s9.els,s10.els⟩
 refine cB (L:=gU) vC (hRB (m1+1+1)) (by kernel_rfl) Tryz.func17 Tryz.ntmps17 Tryz.results17 rfl rfl hu ?_
 generalize hLL:gU=LL at *
 unfold wg
 simp +contextual +decide (maxSteps:=1000000) only [↓ wP,wQ,tf,Nat.reduceAdd,wS,c1,c2,c3,c4,c5,q1,q2,q3,q4,l1,l2,he1,g11,f1,yc,nl,uU,fP,VH (n:=os.els.length) hlen,aQu,pA,rX,gH,hX,he2,kp2,hps,x6,yd,y1,y2,y3,y4,g21,g22,sA,x1,x2,hX1,hXm,sF (n:=os.els.length) hlen,aOj,bE,Option.bind_some]
 rw [hY]
 refine .tuple _ _ rfl (aM (.agg _ _ rfl ?_) (aM (.und _ aR) fJ))
 have U:Frz ⟨m2+1+1,Nat.min 2 low2,Y⟩ 0 no no:=.und _ (tu_int _ hw.no).1.und
 exact aM t1 (aM t2 (aM t3 (aM t4 (aM U (aM t5 (aM t6 (aM t7 (aM t8 (aM U (aM t9 (aM KE fJ)))))))))))
end
theorem BU:∀ {a b:List AV},fM a b=true->a.length=b.length
 | [],[],_=>rfl
 | [],_::_,h=>by cases h
 | _::_,[],h=>by cases h
 | x::a,y::b,h=>by
   rw [fM,Bool.and_eq_true]at h
   rw [List.length_cons,List.length_cons,BU h.2]
theorem rR {w w':AV} (h0:fM (w.fld 0).els (w'.fld 0).els=true) (h1:(w.fld 1).els=(w'.fld 1).els) (h2:(w.fld 2).els=(w'.fld 2).els) (h3:(w.fld 3).els=(w'.fld 3).els) (h4:(w.fld 4).num=(w'.fld 4).num):eH w w'=true:=by
 rw [eH,decide_eq_true (BU h0),h1,h2,h3,decide_eq_true h4,h0,BW,BW,OU];rfl
theorem aAb {r r':AV} {xo xt xu xi xo' xt' xu' xi' yo yo' xd xg:List AV} {no no':AV} (h:IsS r xo xt xu xi no xo' xt' xu' xi' no' xd xg) (h':IsS r' yo xt xu xi no yo' xt' xu' xi' no' xd xg) (h1:fM xo yo=true) (h2:fM xo' yo'=true):BV r r'=true:=by
 obtain ⟨os,ts,us,is,os',ts',us',is',d,g,rfl,_,rfl,rfl,rfl,rfl,rfl,rfl,rfl,rfl,rfl,rfl⟩:=h
 obtain ⟨ps,qs,rs,ss,ps',qs',rs',ss',e,f,rfl,_,rfl,e1,e2,e3,rfl,e4,e5,e6,e7,e8⟩:=h'
 have w1:eH (.agg [os,ts,us,is,no]) (.agg [ps,qs,rs,ss,no])=true:=rR h1 e1.symm e2.symm e3.symm rfl
 have w2:eH (.agg [os',ts',us',is',no']) (.agg [ps',qs',rs',ss',no'])=true:=rR h2 e4.symm e5.symm e6.symm rfl
 show (eH (.agg [os,ts,us,is,no]) (.agg [ps,qs,rs,ss,no])&&(eH (.agg [os',ts',us',is',no']) (.agg [ps',qs',rs',ss',no'])&&(gF d.els e.els&&gF g.els f.els)))=true
 rw [w1,w2,e7,e8,BX,BX];rfl
theorem IsS.st {r:AV} {xo xt xu xi xo' xt' xu' xi' xd xg:List AV} {no no':AV} (h:IsS r xo xt xu xi no xo' xt' xu' xi' no' xd xg):rV r:=by
 obtain ⟨os,ts,us,is,os',ts',us',is',d,g,rfl,h,_⟩:=h
 exact ⟨os,ts,us,is,no,os',ts',us',is',no',d,g,rfl,h⟩
theorem yL {T:AV->Prop}:TSl T .nils:=⟨[],⟨.inl ⟨rfl,rfl⟩,by simp⟩,by simp⟩
theorem wg_zero:WG .nils .nils .nils .nils (.int .i64 0):=⟨yL,yL,yL,yL,⟨_,rfl⟩⟩
theorem KJ:rV zO:=⟨.nils,.nils,.nils,.nils,.int .i64 0,.nils,.nils,.nils,.nils,.int .i64 0,.nils,.nils,rfl,⟨wg_zero,wg_zero,yL,yL⟩⟩
theorem KK:KC KH:=wg_zero.wd
theorem OO:BV zO zO=true:=by
 have w:eH (.agg [.nils,.nils,.nils,.nils,.int .i64 0]) (.agg [.nils,.nils,.nils,.nils,.int .i64 0])=true:=rR (jF _) rfl rfl rfl rfl
 show (eH (.agg [.nils,.nils,.nils,.nils,.int .i64 0]) (.agg [.nils,.nils,.nils,.nils,.int .i64 0])&&(eH (.agg [.nils,.nils,.nils,.nils,.int .i64 0]) (.agg [.nils,.nils,.nils,.nils,.int .i64 0])&&(gF [] []&&gF [] [])))=true
 rw [w];rfl
section
variable {p os ts us is no os' ts' us' is' no' d g:AV}
theorem KL (h:SGL os ts us is no os' ts' us' is' no' d g) (hl:os'.els.length<=os.els.length):eH (jA os os' d ts' us' is' no') (gS os os' d ts' us' is' no')=true:=by
 have e:∀ {T:AV->Prop} {a:AV},TSl T a->(aJ (aJ a)).els=(bM a.els).els:=fun h=>by rw [dQ (aY h),dQ h,gV]
 refine rR ?_ (e h.s.ts) (e h.s.us) (e h.s.is) rfl
 show fM (bM (lM _ _ _)).els (bM (dN _ _ _ _)).els=true
 rw [gV,gV,wI hl,wG,wG,jF]
theorem aGf {a b c e i:AV} (h:WG a b c e i) (hs:fN a.els b.els c.els e.els=true):SmW (wg a b c e i):=by
 simp only [fN,Bool.and_eq_true,decide_eq_true_eq,List.all_eq_true]at hs
 obtain ⟨a1,a2,a3,a4,a5⟩:=hs
 exact ⟨⟨by show a.els.length<=1000;omega,fun o ho=>CA (a5 o ho)⟩,by show b.els.length<=1000;omega,by show c.els.length<=1000;omega,by show e.els.length<=1000;omega⟩
theorem KM {w:AV} (h:KC w):∃ a b c e i,w=.agg [a,b,c,e,i]/\a.isCell=true/\b.isCell=true/\c.isCell=true/\e.isCell=true/\i.isCell=true:=by
 obtain ⟨a,b,c,e,i,rfl,h1,h2,h3,h4,h5⟩:=h
 exact ⟨a,b,c,e,i,rfl,(fT _ h1).2,(aL _ h2).2,(bT _ h3).2,(aL _ h4).2,(tu_int _ h5).2⟩
theorem KN {w:AV} (h:rV w):∃ l,w=.agg l/\l.length=12/\l.all AV.isCell=true:=by
 obtain ⟨os,ts,us,is,no,os',ts',us',is',no',d,g,rfl,h⟩:=h
 exact ⟨_,rfl,rfl,ZT h⟩
set_option maxHeartbeats 8000000 in
theorem VJ (hk:Abs.Returns Tryz.prog 8 [] (.bool true)) {a b c e i:AV} (hp:eN p) (hw:WG a b c e i) (h:SG os ts us is no os' ts' us' is' no' d g):Abs.Returns Tryz.prog 5 [p,wg a b c e i,mQ os ts us is no os' ts' us' is' no' d g] (.bool true):=by
 have hup:=(dD p hp).1
 have hus:=h.und
 have e1:tN [p]=some (.bool (fO (p.fld 0).els (p.fld 1).els (p.fld 3).els)):=bQ hp
 have e2:AZ [.agg [os,ts,us,is,no,os',ts',us',is',no',d,g]]=some (.bool (mR os ts us is no os' ts' us' is' no' d g)):=bQ (a:=mQ os ts us is no os' ts' us' is' no' d g) ⟨os,ts,us,is,no,os',ts',us',is',no',d,g,rfl,h⟩
 have e2w:nU [.agg [a,b,c,e,i]]=some (.bool (fN a.els b.els c.els e.els)):=bQ hw.wd
 have e3:vF []=some (.bool true):=rfl
 obtain ⟨c1,c2,c3,c4,c5⟩:=h.w.cells
 obtain ⟨c6,c7,c8,c9,c10⟩:=h.s.cells
 obtain ⟨c11,c12⟩:=h.cells
 obtain ⟨b1,b2,b3,b4,b5⟩:=hw.cells
 have hu:=aA hup.und (aA hw.und.und (aA hus.und aD))
 have hq:∃ ns fs mm cs,p=.agg [ns,fs,mm,cs]/\ns.isCell=true/\fs.isCell=true/\mm.isCell=true/\cs.isCell=true:=by
  obtain ⟨ns,fs,mm,cs,rfl,a1,a2,a3,a4⟩:=hp
  exact ⟨ns,fs,mm,cs,rfl,(cS _ a1).2,(aL _ a2).2,(tu_int _ a3).2,(cZ _ a4).2⟩
 cases k1:fO (p.fld 0).els (p.fld 1).els (p.fld 3).els with
 | false=>
   rw [k1]at e1
   refine aF (L:=[ent 6 tN,ent 8 vF]) (elist_cons smallPV_ok.ent (elist_cons (tP hk).ent aE)) aH (by kernel_rfl) Tryz.func5 Tryz.ntmps5 Tryz.results5 rfl rfl hu aG ?_
   obtain ⟨ns,fs,mm,cs,rfl,q1,q2,q3,q4⟩:=hq
   unfold mQ wg
   simp +contextual +decide (maxSteps:=1000000) only [↓ wP,wQ,tf,Nat.reduceAdd,wS,c1,c2,c3,c4,c5,c6,c7,c8,c9,c10,c11,c12,b1,b2,b3,b4,b5,q1,q2,q3,q4,e1,e3]
 | true=>
 rw [k1]at e1
 cases k3:fN a.els b.els c.els e.els with
 | false=>
   rw [k3]at e2w
   refine aF (L:=[ent 6 tN,ent 8 vF,ent 15 nU]) (elist_cons smallPV_ok.ent (elist_cons (tP hk).ent (elist_cons smallWV_ok.ent aE))) aH (by kernel_rfl) Tryz.func5 Tryz.ntmps5 Tryz.results5 rfl rfl hu aG ?_
   obtain ⟨ns,fs,mm,cs,rfl,q1,q2,q3,q4⟩:=hq
   unfold mQ wg
   simp +contextual +decide (maxSteps:=1000000) only [↓ wP,wQ,tf,Nat.reduceAdd,wS,c1,c2,c3,c4,c5,c6,c7,c8,c9,c10,c11,c12,b1,b2,b3,b4,b5,q1,q2,q3,q4,e1,e2w,e3]
 | true=>
 rw [k3]at e2w
 cases k2:mR os ts us is no os' ts' us' is' no' d g with
 | false=>
   rw [k2]at e2
   refine aF (L:=[ent 6 tN,ent 8 vF,ent 15 nU,ent 7 AZ]) (elist_cons smallPV_ok.ent (elist_cons (tP hk).ent (elist_cons smallWV_ok.ent (elist_cons smallSV_ok.ent aE)))) aH (by kernel_rfl) Tryz.func5 Tryz.ntmps5 Tryz.results5 rfl rfl hu aG ?_
   obtain ⟨ns,fs,mm,cs,rfl,q1,q2,q3,q4⟩:=hq
   unfold mQ wg
   simp +contextual +decide (maxSteps:=1000000) only [↓ wP,wQ,tf,Nat.reduceAdd,wS,c1,c2,c3,c4,c5,c6,c7,c8,c9,c10,c11,c12,b1,b2,b3,b4,b5,q1,q2,q3,q4,e1,e2w,e2,e3]
 | true=>
 rw [k2]at e2
 have hps:=aAk hp h k1 k2
 have hsw:=aGf hw k3
 obtain ⟨rA,A1,A2⟩:=VG hp hw hsw
 obtain ⟨rB,B1,B2⟩:=ON hp hps.hm hw hsw
 have C1:=VF hps
 have D1:=OM hps
 rw [rT hp]at A1 A2
 have hsame:BV rA rB=true/\rV rA/\rV rB:=by
  cases hok:(eL p&&jP p (wg a b c e i)) with
  | false=>
    rw [hok,if_neg (by decide)]at A2 B2
    subst A2;subst B2
    exact ⟨OO,KJ,KJ⟩
  | true=>
    rw [hok,if_pos rfl]at A2 B2
    exact ⟨aAb A2 B2 (by rw [wG,jF]) (jF _),A2.st,B2.st⟩
 have hwh:∃ wA wB er,AU p os ts us is no os' ts' us' is' no' d g=.tuple [wA,.int .i64 er]/\wF p os ts us is no os' ts' us' is' no' d g=.tuple [wB,.int .i64 er]/\eH wA wB=true/\KC wA/\KC wB:=by
  rw [AU,wF,<-aGl hps]
  cases hop:uT p os ts us is no os' ts' us' is' no' d g with
  | false=>
    rw [if_neg (by decide),if_neg (by decide)]
    exact ⟨KH,KH,2,rfl,rfl,rR (jF _) rfl rfl rfl rfl,KK,KK⟩
  | true=>
    rw [if_pos rfl,if_pos rfl]
    have hl:=yK hop
    have hl':os'.els.length<=os.els.length:=by simp only [jG,Bool.and_eq_true,decide_eq_true_eq]at hl;exact hl.1
    exact ⟨_,_,0,rfl,rfl,KL hps.hs hl',vG hps.hs hl,zN hps.hs hl'⟩
 obtain ⟨wA,wB,er,hwA,hwB,hws,tA,tB⟩:=hwh
 rw [hwA]at C1
 rw [hwB]at D1
 obtain ⟨hss,sA,sB⟩:=hsame
 have f1:GX [rA,rB]=some (.bool true):=by have:GX [rA,rB]=_:=sg2_eq ⟨sA,sB⟩;rw [this,hss]
 have f2:vD [wA,wB]=some (.bool true):=by have:vD [wA,wB]=_:=sg2_eq ⟨tA,tB⟩;rw [this,hws]
 obtain ⟨lA,rfl,nA,yA⟩:=KN sA
 obtain ⟨lB,rfl,nB,yB⟩:=KN sB
 obtain ⟨w1,w2,w3,w4,w5,rfl,v1,v2,v3,v4,v5⟩:=KM tA
 obtain ⟨z1,z2,z3,z4,z5,rfl,y1,y2,y3,y4,y5⟩:=KM tB
 have zA:0+12<=lA.length:=by omega
 have zB:0+12<=lB.length:=by omega
 have hEE:∃ ee,fP (eL p&&jP p (wg a b c e i))=.int .i64 ee:=⟨_,rfl⟩
 obtain ⟨ee,hEE⟩:=hEE
 rw [hEE]at A1 B1
 refine aF (L:=[ent 6 tN,ent 8 vF,ent 15 nU,ent 7 AZ,ent 11 GX,ent 20 vD,oR 16 [p,wg a b c e i] (.tuple [.agg lA,.int .i64 ee]),oR 17 [p,wg a b c e i] (.tuple [.agg lB,.int .i64 ee]),oR 18 [p,mQ os ts us is no os' ts' us' is' no' d g] (.tuple [.agg [w1,w2,w3,w4,w5],.int .i64 er]),oR 19 [p,mQ os ts us is no os' ts' us' is' no' d g] (.tuple [.agg [z1,z2,z3,z4,z5],.int .i64 er])])
  (elist_cons smallPV_ok.ent (elist_cons (tP hk).ent (elist_cons smallWV_ok.ent (elist_cons smallSV_ok.ent (elist_cons rsameS_ok.ent (elist_cons rsameW_ok.ent (elist_cons (eQ A1) (elist_cons (eQ B1) (elist_cons (eQ C1) (elist_cons (eQ D1) aE)))))))))) aH (by kernel_rfl) Tryz.func5 Tryz.ntmps5 Tryz.results5 rfl rfl hu aG ?_
 have x1:∀ {f h:FuncId} {a:List AV} {v:AV} {L:List kL} {args:List AV} {s:Sto},h≠f->aV (oR h a v::L) f args s=aV L f args s:=UH
 have x2:∀ {f:FuncId} {a:List AV} {v:AV} {L:List kL} {s:Sto},aV (oR f a v::L) f a s=some (.ret v none):=dY
 obtain ⟨ns,fs,mm,cs,rfl,q1,q2,q3,q4⟩:=hq
 unfold mQ wg
 simp +contextual +decide (maxSteps:=1000000) only [↓ wP,wQ,tf,Nat.reduceAdd,wS,c1,c2,c3,c4,c5,c6,c7,c8,c9,c10,c11,c12,b1,b2,b3,b4,b5,q1,q2,q3,q4,e1,e2w,e2,e3,f1,f2,x1,x2,nA,nB,yA,yB,v1,v2,v3,v4,v5,y1,y2,y3,y4,y5,bI nA,bI nB]
end
end
end Go.Proofs.YtkocnhkbgcjpbaaGreat
