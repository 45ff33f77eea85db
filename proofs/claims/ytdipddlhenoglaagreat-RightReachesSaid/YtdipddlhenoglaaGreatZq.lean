/-
  Reach, by the reference.
-/
import Derived.Test.YtdipddlhenoglaaGreatZn
set_option linter.unusedVariables false
set_option linter.unusedSimpArgs false
namespace Go.Proofs.YtdipddlhenoglaaGreat
open Go.Abs Go Go.Abs.TryzF
noncomputable section
set_option maxRecDepth 10000
structure WLg (g:Nat->List Nat) (N:Nat) (r:Nat) (j:Nat) (R:List Nat):Prop where
 nd:R.Nodup
 lt:∀ x∈R,x<N/\Abs.Way g r x
 ro:r∈R
 jl:j<=R.length
 cl:∀ i n,i<j->R[i]?=some n->∀ y∈g n,y∈R
abbrev WL (A:List AV) (r:Nat) (j:Nat) (R:List Nat):Prop:=WLg (oA A) A.length r j R
theorem lS {R:List Nat} {x y:Nat}:y∈uB R x↔y∈R∨y=x:=by
 unfold uB
 split
 ·exact ⟨.inl,fun h=>h.elim id fun e=>e ▸ ‹_›⟩
 ·simp
theorem putN_pre {R:List Nat} {x:Nat}:R <+: uB R x:=by
 unfold uB
 split
 ·exact List.prefix_rfl
 ·exact List.prefix_append ..
theorem aEn {R:List Nat} {x:Nat} (h:R.Nodup):(uB R x).Nodup:=by
 unfold uB
 split
 ·exact h
 ·rename_i hx
  refine List.nodup_append.2 ⟨h,by simp,fun a ha b hb=>?_⟩
  obtain rfl:=List.mem_singleton.1 hb
  exact fun e=>hx (e ▸ ha)
theorem WLg.put {g:Nat->List Nat} {N r j:Nat} {R:List Nat} (h:WLg g N r j R) {x:Nat} (hx:x<N/\Abs.Way g r x):WLg g N r j (uB R x) where
 nd:=aEn h.nd
 lt:=fun y hy=>by
  rcases lS.1 hy with hy | rfl
  ·exact h.lt y hy
  ·exact hx
 ro:=lS.2 (.inl h.ro)
 jl:=Nat.le_trans h.jl putN_pre.length_le
 cl:=fun i n hi hn y hy=>by
  have hil:i<R.length:=Nat.lt_of_lt_of_le hi h.jl
  have h2:=List.prefix_iff_getElem?.1 (putN_pre (R:=R) (x:=x)) i hil
  rw [hn]at h2
  exact lS.2 (.inl (h.cl i n hi (by rw [List.getElem?_eq_getElem hil];exact h2.symm) y hy))
theorem WLg.len {g:Nat->List Nat} {N r j:Nat} {R:List Nat} (h:WLg g N r j R):R.length<=N:=by
 have:=pB (cJ R) (cJ (List.range N)) (List.pairwise_map.2 (h.nd.imp fun h e=>h (by omega))) fun x hx=>by
  obtain ⟨y,hy,rfl⟩:=List.mem_map.1 hx
  exact List.mem_map.2 ⟨y,List.mem_range.2 (h.lt y hy).1,rfl⟩
 simpa [cJ] using this
theorem WLg.fin {g:Nat->List Nat} {N r:Nat} {R:List Nat} (h:WLg g N r R.length R) {x:Nat}:x∈R↔Abs.Way g r x:=by
 constructor
 ·exact fun hx=>(h.lt x hx).2
 ·intro hw
  refine aFa (g:=g) (t:=[r]) (fun y hy=>?_) (fun y hy z hz=>?_) ⟨r,List.mem_singleton.2 rfl,hw⟩
  ·obtain rfl:=List.mem_singleton.1 hy;exact h.ro
  ·obtain ⟨i,hi,rfl⟩:=List.mem_iff_getElem.1 hy
   exact h.cl i _ hi (List.getElem?_eq_getElem hi) z hz
theorem WL.fin {A:List AV} {r:Nat} {R:List Nat} (h:WL A r R.length R):uV R A.length=bX A r:=by
 refine List.filter_congr fun x _=>?_
 rw [decide_eq_decide]
 exact WLg.fin h
theorem WLg.step {g:Nat->List Nat} {N r j n:Nat} {R:List Nat} (h:WLg g N r j R) (hn:R[j]?=some n) (hr:∀ y∈g n,y∈R):WLg g N r (j+1) R where
 nd:=h.nd
 lt:=h.lt
 ro:=h.ro
 jl:=(List.getElem?_eq_some_iff.1 hn).1
 cl:=fun i m hi hm y hy=>by
  rcases Nat.lt_or_ge i j with hlt | hge
  ·exact h.cl i m hlt hm y hy
  ·obtain rfl:i=j:=by omega
   rw [hn]at hm;cases hm
   exact hr y hy
theorem MY {l:List AV} {i:Nat} {v:AV} (h:l[i]?=some v):kX (l.take (i+1))=kX (l.take i)++(if (v.fld 0).num=5 then [(v.fld 1).num.toNat] else []):=by
 rw [List.take_add_one,h,kX,List.filterMap_append]
 congr 1
 by_cases h:(v.fld 0).num=5<;>simp [h]
theorem AccI.uniq {lo n:Nat} {v:AV} {o:Tr AObj} {R R':List AV} (h:AccI lo v n o R) (h':AccI lo v n o R'):R=R':=by
 rcases h with ⟨rfl,rfl⟩ | ⟨h0,id,g,c,rfl,_,h2,_⟩
 ·rcases h' with ⟨rfl,h1⟩ | ⟨h0',id',g',c',h1,_,h2',_⟩
  ·rfl
  ·cases h1
 ·rcases h' with ⟨rfl,h1⟩ | ⟨h0',id',g',c',h1,_,h2',_⟩
  ·cases h1
  ·obtain ⟨rfl,rfl,_⟩:=AV.sl.inj h1
   rw [h2]at h2'
   exact (vU (Option.some.inj h2')).2
theorem RG {lo:Nat} {s:Sto} {v:AV} {l:List Nat} (h:AccI lo v s.n s.o (aQ l)) (hlo:lo<=s.n) (hl:l.length<=900) (x:Nat):
 ∃ v' S,(AccI lo v' S.n S.o (aQ (uB l x))/\s.n<=S.n/\(∀ id,id<lo->S.o.get id=s.o.get id)/\(∀ m,m<=lo->m<=s.low->m<=S.low))/\∀ L,orcL (fJ 65 (NE lo)::L) 65 [v,.int .i64 (x:Nat)] s=some (.ret v' (some S)):=by
 obtain ⟨res,h1,h2⟩:=kB (f:=65) (TS h hlo hl x)
 obtain ⟨v1,l1,x1,e1,h3,⟨v',S,rfl,h4⟩,_⟩:=h1
 simp only [List.cons.injEq,AV.int.injEq,true_and,and_true]at e1
 obtain ⟨rfl,e1⟩:=e1
 obtain rfl:x=x1:=by omega
 obtain rfl:l=l1:=xC (AccI.uniq h h3)
 exact ⟨v',S,h4,h2⟩
theorem aEo {lo:Nat}:cC Tryz.prog (fJ 65 (NE lo)):=pK fun _ _ _ h=>by obtain ⟨_,_,_,_,_,_,h⟩:=h;exact h
abbrev EC:List AV->Option AV:=tP yH fun o=>bL (eA o)
theorem qvalV_ok:Abs.Ok Tryz.prog 88 EC:=zK fun o h=>NF h
theorem AccI.und {lo n:Nat} {v:AV} {o:Tr AObj} {R:List AV} (h:AccI lo v n o R):UnderE n v:=by
 rcases h with ⟨_,rfl⟩ | ⟨_,id,g,c,rfl,_,_,_,h⟩
 ·exact ⟨1,rfl⟩
 ·exact ⟨1,by simpa [AV.under] using h⟩
section
variable {os ts us is no:AV}
def hRc (n:Nat):cU:=fun r=>if r=5 then ([],[1000,qG n,10]) else if r=9 then ([8],[]) else ([],[])
theorem aOu {n:Nat}:hRc n 5=([],[1000,qG n,10]):=rfl
theorem aOv {n:Nat}:hRc n 9=([8],[]):=rfl
def aEp (os ts us is no:AV) (args:List AV) (s:Sto) (res:CRes):Prop:=∃ id g c k,args=[dY os ts us is no,.sl id g 0 1 c]/\s.get id=some (aX g [.int .i64 ((k:Nat):Int)])/\res=.ret (bF (bX os.els (bS ts k))) none/\bU Tryz.prog 41 args s res
set_option maxHeartbeats 4000000 in
theorem TR (h:GW os ts us is no) {s:Sto} {id g k0:Nat} {c:ACap} (hg:s.get id=some (aX g [.int .i64 (k0:Nat)])) (hk:k0<ts.els.length):∃ res,aEp os ts us is no [dY os ts us is no,.sl id g 0 1 c] s res:=by
 refine ⟨_,id,g,c,k0,rfl,hg,rfl,?_⟩
 obtain ⟨n0,low0,o0⟩:=s
 have hid:id<n0:=Sto.get_lt hg
 rw [Sto.get_mk hid]at hg
 refine xL (L:=[ent 88 EC,fJ 65 (NE (n0+1)),fJ 66 uW]) (elist_cons qvalV_ok.ent (elist_cons aEo (elist_cons RN aG))) (hRc (n0+1)) (by kernel_rfl) Tryz.func41 Tryz.ntmps41 Tryz.results41 rfl rfl ?_
 obtain ⟨c0,c1,c2,c3,c4⟩:=h.g.cells
 have hst:Sl ts ts.els:=by
  obtain ⟨xs,hs,_⟩:=h.g.ts
  rw [hs.els];exact hs
 have hso:Sl os os.els:=by
  obtain ⟨xs,hs,_⟩:=h.g.os
  rw [hs.els];exact hs
 obtain ⟨q1,q2⟩:=h.task hk
 have f0:=lO hid
 simp +contextual +decide (maxSteps:=1000000) only [↓ wP,wQ,tf,Nat.reduceAdd,wS,reduceCtorEq,c0,c1,c2,c3,c4,f0,dA]
 refine aP (fun i e=>∃ t n low o v,e=⟨65,none,41,t,[],⟨n,low,o⟩,.no⟩/\t.val 1=.sl id g 0 1 c/\t.val 2=.ptr n0 0 0/\t.val 5=v/\t.val 6=.int .i64 (i:Nat)/\o.get n0=some (aX 0 [os,ts,us,is,no])/\o.get id=some (aX g [.int .i64 (k0:Nat)])/\n0+1<=n/\n0<=low/\AccI (n0+1) v n o (aQ (if i=0 then [] else [bS ts k0]))/\i<=1) (fun i=>1-i) 0
  ⟨_,_,_,_,.nils,rfl,by simp +decide only [↓ aB,aE,aC],by simp +decide only [↓ aB,aE,aC],by simp +decide only [↓ aB,aE,aC],by simp +decide only [↓ aB,aE,aC];rfl,by simp +decide only [↓ aB,aJ,aC,ne_eq],by simp +decide only [↓ aB,aJ,aC,ne_eq,f0,hg],Nat.le_refl _,Nat.le_refl _,.inl ⟨rfl,rfl⟩,Nat.zero_le _⟩ ?_
 rintro i _ ⟨t,n,low,o,v,rfl,t1,t2,t5,t6,g0,g1,hn,hlow,hA,hi⟩
 have f1:=dR (show n0<n by omega)
 have f2:=dR (show id<n by omega)
 have hidn:id<n0+1:=by omega
 rcases Nat.lt_or_ge i 1 with hlt | hge
 ·obtain rfl:i=0:=by omega
  obtain ⟨v',⟨n1,low1,o1⟩,⟨p1,p2,p3,p4⟩,p5⟩:=RG (s:=⟨n,low,o⟩) (lo:=n0+1) hA hn (by simp) (bS ts k0)
  have p5':orcL [ent 88 EC,fJ 65 (NE (n0+1)),fJ 66 uW] 65 [v,.int .i64 (bS ts k0:Nat)] ⟨n,low,o⟩=_:=p5 [fJ 66 uW]
  have hix:=fun {q:IntKind} {d:Option AV}=>jV (k:=1) (xs:=ts.els) (n:=(k0:Nat)) (by omega) q2 rfl (q:=q) (d:=d)
  have hz:[AV.int IntKind.i64 (k0:Nat)][0+(((0:Nat):Int)).toNat*1]?=some (.int .i64 (k0:Nat)):=rfl
  have hu:=AccI.und hA
  have p2':n<=n1:=p2
  have ks:mB (rO n (n0+1)) ⟨n,low,o⟩ ⟨n1,low1,o1⟩:=sH (Nat.min_le_right _ _) hn p2 p3
  simp +contextual +decide (maxSteps:=1000000) only [↓ wP,wQ,tf,Nat.reduceAdd,wS,reduceCtorEq,aOu,aJs,xK,ZN,pD,hz,t1,t2,t5,t6,g0,g1,f1,f2,dA,hst.idx,hix,p5',hidn,hu,p2',ks]
  exact ⟨1,by decide,_,_,_,_,v',rfl,by simp +decide only [↓ aB,aE,aC,t1],by simp +decide only [↓ aB,aE,aC,t2],by simp +decide only [↓ aB,aE,aC],by simp +decide only [↓ aB,aE,aC];rfl,(p3 n0 (Nat.lt_succ_self _)).trans g0,(p3 id (by omega)).trans g1,Nat.le_trans hn p2,p4 n0 (Nat.le_succ _) hlow,p1,Nat.le_refl _⟩
 ·obtain rfl:i=1:=by omega
  rw [if_neg (by decide)]at hA
  simp +contextual +decide (maxSteps:=1000000) only [↓ wP,wQ,tf,Nat.reduceAdd,wS,reduceCtorEq,t1,t2,t5,t6]
  have hW:WL os.els (bS ts k0) 0 [bS ts k0]:=
   {nd:=by simp,lt:=fun x hx=>by obtain rfl:=List.mem_singleton.1 hx;exact ⟨q1,.refl _⟩,ro:=List.mem_singleton.2 rfl,jl:=Nat.zero_le _,cl:=fun i n hi=>(Nat.not_lt_zero _ hi).elim}
  refine aP (fun j e=>∃ t n low o v R,e=⟨65,none,41,t,[],⟨n,low,o⟩,.no⟩/\t.val 2=.ptr n0 0 0/\t.val 5=v/\t.val 7=.int .i64 (j:Nat)/\o.get n0=some (aX 0 [os,ts,us,is,no])/\n0+1<=n/\n0<=low/\AccI (n0+1) v n o (aQ R)/\WL os.els (bS ts k0) j R) (fun j=>os.els.length-j) 0
   ⟨_,_,_,_,v,_,rfl,by simp +decide only [↓ aB,aE,aC,t2],by simp +decide only [↓ aB,aE,aC,t5],by simp +decide only [↓ aB,aE,aC];rfl,g0,hn,hlow,hA,hW⟩ ?_
  clear t1 t2 t5 t6 g0 g1 hn hlow hA f1 f2 hi hge hW
  rintro j _ ⟨t,n,low,o,v,R,rfl,t2,t5,t7,g0,hn,hlow,hA,hW⟩
  have f1:=dR (show n0<n by omega)
  have hRl:=hW.len
  have hol:=h.ol
  have hjl:=hW.jl
  have hA0:=hA
  have hu:=AccI.und hA
  rcases hA with ⟨e,_⟩ | ⟨h0,id2,g2,c2,rfl,_,hg2,hlo2,hlt2⟩
  ·have:=hW.ro
   rw [List.map_eq_nil_iff.1 e]at this;cases this
  rw [bH]at t5 hA0
  have f3:=dR hlt2
  rcases Nat.lt_or_ge j R.length with hlt | hge
  ·have hRj:=List.getElem?_eq_getElem hlt
   have hmR:=List.getElem_mem hlt
   generalize R[j]=m at *
   obtain ⟨hmN,hmW⟩:=hW.lt m hmR
   obtain ⟨xs,hs,hTos⟩:=h.g.os
   have hels:=hs.els
   have hgd:=h.a.good
   have hrefs:=h.a.refs
   have hgx':oA os.els m=kX (eA (os.els.getD m .top)):=rfl
   rw [hels]at hmN hgd
   obtain ⟨x,hDx,hm,hgx,_,hix,hw,hcl⟩:=bK (k:=4) (fun x h=>tk_ob.len h) hTos (show xs.length<=9223372036854775807 by have:=hs.2;omega) hmN
   have hpf:=fun {d:Option AV}=>tk_ob.pf hDx (d:=d)
   have hgo:=hgd x hm
   have hqv:EC [x]=some (bL (eA x)):=cT hgo
   have hjk:=fK hRj
   have k1:(((j:Nat):Int)<((R.length:Nat):Int))=True:=eq_true (by omega)
   have k2:(0<=((j:Nat):Int))=True:=eq_true (by omega)
   have hwj:IntKind.i64.wrap ((j:Int)+1)=((j+1:Nat):Int):=by rw [IntWalk.i64_in _ (by omega)];rfl
   simp +contextual +decide (maxSteps:=1000000) only [↓ wP,wQ,tf,Nat.reduceAdd,wS,reduceCtorEq,aOv,t2,t5,t7,g0,f1,f3,dA,hg2,hjk,k1,k2,hs.idx,hix,hpf,hqv,hcl,rQ,Int.toNat_natCast,Nat.mul_one,Nat.zero_add]
   have hvl:(eA x).length<=100000:=hgo.2.2
   have hTv:∀ v∈eA x,vQ v:=lT (vB hDx)
   have hsr:Sl (bL (eA x)) (eA x):=lW (by omega)
   have hrf:=hrefs x (by rw [hels];exact hm)
   have hgm:oA os.els m=kX (eA x):=by rw [oA,hels,List.getD_eq_getElem?_getD,hgx];rfl
   generalize eA x=vl at *
   refine aP (fun k e=>∃ t n low o v R',e=⟨65,none,41,t,[],⟨n,low,o⟩,.no⟩/\t.val 2=.ptr n0 0 0/\t.val 5=v/\t.val 7=.int .i64 (j:Nat)/\t.val 8=bL vl/\t.val 9=.int .i64 (k:Nat)/\o.get n0=some (aX 0 [os,ts,us,is,no])/\n0+1<=n/\n0<=low/\AccI (n0+1) v n o (aQ R')/\WL os.els (bS ts k0) j R'/\R <+: R'/\(∀ y∈kX (vl.take k),y∈R')/\k<=vl.length) (fun k=>vl.length-k) 0
    ⟨_,_,_,_,_,R,rfl,by simp +decide only [↓ aB,aE,aC,t2],by simp +decide only [↓ aB,aE,aC,t5],by simp +decide only [↓ aB,aE,aC,t7],by simp +decide only [↓ aB,aE,aC],by simp +decide only [↓ aB,aE,aC];rfl,g0,hn,hlow,hA0,hW,List.prefix_rfl,fun y hy=>(nomatch hy),Nat.zero_le _⟩ ?_
   clear t2 t5 t7 g0 hn hlow hA0 hW f1 f3 hg2 hlt2 hu hlo2
   rintro k _ ⟨t,n,low,o,v,R',rfl,t2,t5,t7,t8,t9,g0,hn,hlow,hA,hW,hpre,hrk,hk⟩
   have f1:=dR (show n0<n by omega)
   have hu:=AccI.und hA
   have hRl':=hW.len
   rcases Nat.lt_or_ge k vl.length with hlt2 | hge2
   ·obtain ⟨y,hDy,hmy,hgy,_,hiy,hwy,hcy⟩:=bK (k:=2) (fun x h=>tk_val.len h) hTv (show vl.length<=9223372036854775807 by omega) hlt2
    have hsn:=MY hgy
    have hry:=hrf y hmy
    obtain ⟨a,b,rfl,⟨ka,rfl⟩,⟨kb,rfl⟩⟩:=hDy
    rw [show ((AV.agg [.int .i64 ka,.int .i64 kb]).fld 0).num=ka from rfl,show ((AV.agg [.int .i64 ka,.int .i64 kb]).fld 1).num=kb from rfl]at hsn hry
    by_cases h5:ka=5
    ·obtain ⟨r1,r2⟩:=hry h5
     subst h5
     rw [if_pos rfl]at hsn
     obtain ⟨b,rfl⟩:∃ b:Nat,kb=(b:Nat):=⟨kb.toNat,by omega⟩
     rw [Int.toNat_natCast]at hsn
     have hb:b∈oA os.els m:=by
      rw [hgm]
      exact List.mem_filterMap.2 ⟨_,hmy,by simp [AV.fld,AV.num]⟩
     have hWb:b<os.els.length/\Abs.Way (oA os.els) (bS ts k0) b:=⟨h.a.lt b hb,hmW.trans (.step hb (.refl _))⟩
     obtain ⟨v',⟨n1,low1,o1⟩,⟨p1,p2,p3,p4⟩,p5⟩:=RG (s:=⟨n,low,o⟩) (lo:=n0+1) hA hn (by omega) b
     have p5':orcL [ent 88 EC,fJ 65 (NE (n0+1)),fJ 66 uW] 65 [v,.int .i64 (b:Nat)] ⟨n,low,o⟩=_:=p5 [fJ 66 uW]
     have p2':n<=n1:=p2
     simp +contextual +decide (maxSteps:=1000000) only [↓ wP,wQ,tf,Nat.reduceAdd,wS,reduceCtorEq,t2,t5,t7,t8,t9,g0,f1,dA,hsr.len,hsr.idx,hiy,hwy,hcy,p5',hu,p2']
     refine ⟨k+1,by show _-_<_-_;omega,_,_,_,_,v',uB R' b,rfl,by simp +decide only [↓ aB,aE,aC,t2],by simp +decide only [↓ aB,aE,aC],by simp +decide only [↓ aB,aE,aC,t7],by simp +decide only [↓ aB,aE,aC,t8],by simp +decide only [↓ aB,aE,aC],(p3 n0 (Nat.lt_succ_self _)).trans g0,Nat.le_trans hn p2,p4 n0 (Nat.le_succ _) hlow,p1,hW.put hWb,hpre.trans putN_pre,?_,hlt2⟩
     intro z hz
     rw [hsn]at hz
     rcases List.mem_append.1 hz with hz | hz
     ·exact lS.2 (.inl (hrk z hz))
     ·exact lS.2 (.inr (List.mem_singleton.1 hz))
    ·rw [if_neg h5,List.append_nil]at hsn
     simp +contextual +decide (maxSteps:=1000000) only [↓ wP,wQ,tf,Nat.reduceAdd,wS,reduceCtorEq,t2,t5,t7,t8,t9,g0,f1,dA,hsr.len,hsr.idx,hiy,hwy,hcy,h5]
     exact ⟨k+1,by show _-_<_-_;omega,_,_,_,_,v,R',rfl,by simp +decide only [↓ aB,aE,aC,t2],by simp +decide only [↓ aB,aE,aC,t5],by simp +decide only [↓ aB,aE,aC,t7],by simp +decide only [↓ aB,aE,aC,t8],by simp +decide only [↓ aB,aE,aC],g0,hn,hlow,hA,hW,hpre,by rw [hsn];exact hrk,hlt2⟩
   ·obtain rfl:k=vl.length:=Nat.le_antisymm hk hge2
    rw [List.take_length]at hrk
    simp +contextual +decide (maxSteps:=1000000) only [↓ wP,wQ,tf,Nat.reduceAdd,wS,reduceCtorEq,t2,t5,t7,t8,t9,bE,hsr.len,hwj]
    have hRj':R'[j]?=some m:=by
     have:=List.prefix_iff_getElem?.1 hpre j hlt
     rw [<-List.getElem?_eq_getElem hlt,hRj]at this;exact this
    exact ⟨j+1,by show _-_<_-_;omega,_,_,_,_,v,R',rfl,by simp +decide only [↓ aB,aE,aC,t2],by simp +decide only [↓ aB,aE,aC,t5],by simp +decide only [↓ aB,aE,aC],g0,hn,hlow,hA,hW.step hRj' (by rw [hgm];exact hrk)⟩
  ·obtain rfl:j=R.length:=Nat.le_antisymm hjl hge
   have hfin:=WL.fin hW
   have hsg:=RL (RowN.acc (low:=low) hA0) (by omega) (N:=os.els.length) (by omega) []
   rw [hfin]at hsg
   have hsg':orcL [ent 88 EC,fJ 65 (NE (n0+1)),fJ 66 uW] 66 [.sl id2 g2 0 R.length c2,.int .i64 (os.els.length:Nat)] ⟨n,low,o⟩=_:=hsg
   have k1:(((R.length:Nat):Int)<((R.length:Nat):Int))=False:=eq_false (by omega)
   simp +contextual +decide (maxSteps:=1000000) only [↓ wP,wQ,tf,Nat.reduceAdd,wS,reduceCtorEq,t2,t5,t7,k1,g0,f1,hso.len,hsg']
   refine ⟨rfl,_,rfl,?_⟩
   simp +contextual +decide (maxSteps:=1000000) only [↓ wP,wQ,tf,Nat.reduceAdd,wS,reduceCtorEq]
   exact ⟨hlow,.und _ ((iJ (by have:=jE os.els (bS ts k0);omega)).mono (Nat.zero_le _)).und⟩
theorem YK (h:GW os ts us is no) {s:Sto} {id g k:Nat} {c:ACap} (hg:s.get id=some (aX g [.int .i64 (k:Nat)])) (hk:k<ts.els.length) (L:List mN):orcL (fJ 41 (aEp os ts us is no)::L) 41 [dY os ts us is no,.sl id g 0 1 c] s=some (.ret (bF (bX os.els (bS ts k))) none):=by
 obtain ⟨res,h1,h2⟩:=kB (f:=41) (TR h (c:=c) hg hk)
 obtain ⟨id',g',c',k',e1,h3,h4,_⟩:=h1
 simp only [List.cons.injEq,AV.sl.injEq,true_and,and_true]at e1
 obtain ⟨rfl,rfl,rfl⟩:=e1
 rw [hg]at h3
 have h5:=(vU (Option.some.inj h3)).2
 simp only [List.cons.injEq,AV.int.injEq,true_and,and_true]at h5
 obtain rfl:k=k':=by omega
 rw [<-h4];exact h2 L
theorem YL:cC Tryz.prog (fJ 41 (aEp os ts us is no)):=pK fun _ _ _ h=>by obtain ⟨_,_,_,_,_,_,_,h⟩:=h;exact h
theorem ED (h:GW os ts us is no) {k:Nat} (hk:k<ts.els.length):Abs.Returns Tryz.prog 15 [dY os ts us is no,.int .i64 (k:Nat)] (bF (bX os.els (bS ts k))):=by
 have huw:=h.g.und
 obtain ⟨c0,c1,c2,c3,c4⟩:=h.g.cells
 refine bW (L:=[fJ 41 (aEp os ts us is no)]) (elist_cons YL aG) aM (by kernel_rfl) Tryz.func15 Tryz.ntmps15 Tryz.results15 rfl rfl (aA huw.und (aA aS aF)) ?_
 have s1:∀ {a:AV},[AV.int .i64 0].set (0*1) a=[a]:=rfl
 have hr:=YK h (s:=⟨2,0,(Tr.leaf.set 0 (aX 0 [os,ts,us,is,no])).set 1 (aX 0 [.int .i64 (k:Nat)])⟩) (id:=1) (g:=0) (c:=.is 1) ((Sto.get_mk (by omega)).trans (Tr.get_set_same _ _ _)) hk []
 simp +contextual +decide (maxSteps:=1000000) only [↓ wP,wQ,tf,Nat.reduceAdd,wS,reduceCtorEq,c0,c1,c2,c3,c4,s1,hr]
 exact .und _ (iJ (by have:=jE os.els (bS ts k);have:=h.ol;omega)).und
abbrev zP (os ts us is no:AV):List AV->Option AV:=xB (fun w t=>w=dY os ts us is no/\∃ k:Nat,k<ts.els.length/\t=.int .i64 (k:Nat)) fun _ t=>bF (bX os.els (bS ts t.num.toNat))
theorem MZ (h:GW os ts us is no):Abs.Ok Tryz.prog 15 (zP os ts us is no):=ok2 fun w t ⟨e,k,hk,e'⟩=>by
 subst e;subst e';exact ED h hk
end
theorem JD {P:Program} {f:FuncId} {args:List AV} {s:Sto} {v:AV} (h:bU P f args s (.ret v none)):bU P f args s (.ret v (some s)):=by
 obtain ⟨h1,fn,h2,h3⟩:=h
 refine ⟨h1,fn,h2,fun σ w A kd stk m hrel ha hstk hrm=>?_⟩
 obtain ⟨τ,V,w',fr,m',q1,q2,q3⟩:=h3 σ w A kd stk m hrel ha hstk hrm
 exact ⟨τ,V,w',fr,m',q1,QStp.stp q2 hrel,q3⟩
def EE (args:List AV) (s:Sto) (res:CRes):Prop:=∃ b,ND args s (.ret b none)/\res=.ret b (some s)
theorem YM:cC Tryz.prog (fJ 86 EE):=pK fun _ _ _ h=>by
 obtain ⟨b,h,rfl⟩:=h
 obtain ⟨_,_,_,_,_,_,h⟩:=h
 exact JD h
theorem YO {s:Sto} {v:AV} {l:List Nat} (h:RowN s v l) (hl:l.length<=1000) (x:Nat) (L:List mN):orcL (fJ 86 EE::L) 86 [v,.int .i64 (x:Nat)] s=some (.ret (.bool (decide (x∈l))) (some s)):=by
 obtain ⟨res,h1⟩:=EG h hl x
 have e:=FW h h1
 subst e
 obtain ⟨res,⟨b,h2,rfl⟩,h3⟩:=kB (f:=86) (R:=EE) ⟨_,_,h1,rfl⟩
 have e2:=FW h h2
 cases e2
 exact h3 L
section
variable {os ts us is no:AV}
theorem nW {l:List Nat} (h:l.length<=1000):Sl (bF l) (aQ l):=by rw [nY];exact JM h
def tY (os ts:AV) (n:Nat):List AV:=(List.range n).map fun i=>bF (bX os.els (bS ts i))
def uT (os ts:AV):AV:=if (tY os ts ts.els.length).length=0 then .nils else .fz (tY os ts ts.els.length) false
theorem sE (h:GW os ts us is no) {n:Nat}:∀ x∈tY os ts n,x.isCell=true/\UnderE 0 x:=fun x hx=>by
 obtain ⟨i,_,rfl⟩:=List.mem_map.1 hx
 exact ⟨cD,iJ (Nat.le_trans (jE _ _) (by have:=h.ol;omega))⟩
theorem AG {os ts:AV} {n:Nat}:(tY os ts n).length=n:=by simp [tY]
set_option maxHeartbeats 4000000 in
theorem aEq (h:GW os ts us is no):Abs.Returns Tryz.prog 38 [dY os ts us is no] (uT os ts):=by
 have huw:=h.g.und
 obtain ⟨c0,c1,c2,c3,c4⟩:=h.g.cells
 have hm:ts.els.length<=120:=Nat.le_trans h.l h.ol
 have hst:Sl ts ts.els:=by
  obtain ⟨xs,hs,_⟩:=h.g.ts
  rw [hs.els];exact hs
 refine bW (L:=[ent 15 (zP os ts us is no)]) (elist_cons (MZ h).ent aG) aM (by kernel_rfl) Tryz.func38 Tryz.ntmps38 Tryz.results38 rfl rfl (aA huw.und aF) ?_
 simp +contextual +decide (maxSteps:=1000000) only [↓ wP,wQ,tf,Nat.reduceAdd,wS,reduceCtorEq,c0,c1,c2,c3,c4]
 refine aP (fun i e=>∃ t n low o v,e=⟨19,none,38,t,[],⟨n,low,o⟩,.no⟩/\t.val 1=.ptr 0 0 0/\t.val 3=v/\t.val 4=.int .i64 (i:Nat)/\o.get 0=some (aX 0 [os,ts,us,is,no])/\1<=n/\AccI 1 v n o (tY os ts i)/\i<=ts.els.length) (fun i=>ts.els.length-i) 0
  ⟨_,_,_,_,.nils,rfl,by simp +decide only [↓ aB,aE,aC],by simp +decide only [↓ aB,aE,aC],by simp +decide only [↓ aB,aE,aC];rfl,by simp +decide only [↓ aB,aJ,aC,ne_eq],Nat.le_refl _,.inl ⟨rfl,rfl⟩,Nat.zero_le _⟩ ?_
 rintro i _ ⟨t,n,low,o,v,rfl,t1,t3,t4,g0,hn,hA,hi⟩
 have f0:=lO (show 0<n by omega)
 rcases Nat.lt_or_ge i ts.els.length with hlt | hge
 ·have k1:(((i:Nat):Int)<((ts.els.length:Nat):Int))=True:=eq_true (by omega)
  have hw1:IntKind.i64.wrap ((i:Int)+1)=((i+1:Nat):Int):=by rw [IntWalk.i64_in _ (by omega)];rfl
  have hsn:tY os ts (i+1)=tY os ts i++[bF (bX os.els (bS ts i))]:=by simp [tY,List.range_succ]
  have s1:∀ {a:AV},[AV.nils].set (0*1) a=[a]:=rfl
  have hA':AccI 1 v (n+1) (o.set n (aX 0 [bF (bX os.els (bS ts i))])) _:=hA.keep (Nat.le_succ n) fun id _ h2=>Tr.get_set_ne _ _ (by omega)
  obtain ⟨v',n',low',o',q1,q2,q3,q4,_⟩:=hA'.app (low:=low) (by_:=24) (List.all_eq_true.2 fun x hx=>(sE h x hx).1) (x:=bF (bX os.els (bS ts i))) cD (by omega) (by rw [AG];omega)
  have hcv:=hA.cell
  have hrv:zP os ts us is no [.agg [os,ts,us,is,no],.int .i64 (i:Nat)]=some (bF (bX os.els (bS ts i))):=by
   rw [zP,sg2_eq (b:=.int .i64 (i:Nat)) ⟨rfl,i,hlt,rfl⟩];rfl
  simp +contextual +decide (maxSteps:=1000000) only [↓ wP,wQ,tf,Nat.reduceAdd,wS,reduceCtorEq,t1,t3,t4,g0,f0,dA,k1,hw1,s1,q1,hcv,hrv,hst.len,cD]
  refine ⟨i+1,by show _-_<_-_;omega,_,_,_,_,v',rfl,by simp +decide only [↓ aB,aE,aC,t1],by simp +decide only [↓ aB,aE,aC],by simp +decide only [↓ aB,aE,aC],?_,by omega,?_,hlt⟩
  ·rw [q4 0 (by omega),Tr.get_set_ne _ _ (by omega)];exact g0
  ·rw [hsn];exact q2
 ·obtain rfl:i=ts.els.length:=Nat.le_antisymm hi hge
  simp +contextual +decide (maxSteps:=1000000) only [↓ wP,wQ,tf,Nat.reduceAdd,wS,reduceCtorEq,t1,t3,t4,bE,g0,f0,hst.len]
  exact hA.frz (fun x hx=>(sE h x hx).1) fun x hx=>(sE h x hx).2
def tM (os:AV) (a b:List Nat):Bool:=a.any fun x=>decide (x∈b)&&DM os x
set_option maxHeartbeats 4000000 in
theorem NA (h:GW os ts us is no) {a b:List Nat} (ha:∀ x∈a,x<os.els.length) (hla:a.length<=1000) (hlb:b.length<=1000):Abs.Returns Tryz.prog 87 [dY os ts us is no,bF a,bF b] (.bool (tM os a b)):=by
 have huw:=h.g.und
 obtain ⟨c0,c1,c2,c3,c4⟩:=h.g.cells
 have hsa:=nW hla
 have hsb:=nW hlb
 have hca:(bF a).isCell=true:=cD
 have hcb:(bF b).isCell=true:=cD
 have hq:∀ i:Nat,iN [bF b,.int .i64 (i:Nat)]=some (.bool (decide (i∈b))):=fun i=>by
  rw [iN,sg2_eq (b:=.int .i64 (i:Nat)) ⟨⟨_,hsb,xE⟩,_,rfl⟩,hsb.els]
  rw [show (AV.int .i64 ((i:Nat):Int)).num=(i:Nat) from rfl,JF]
 obtain ⟨xs,hs,hTos⟩:=h.g.os
 have hels:=hs.els
 refine aH (L:=[ent 86 iN]) (elist_cons qListed_ok.ent aG) aM (by kernel_rfl) Tryz.func87 Tryz.ntmps87 Tryz.results87 rfl rfl (aA huw.und (aA (iJ hla).und (aA (iJ hlb).und aF))) aL ?_
 simp +contextual +decide (maxSteps:=1000000) only [↓ wP,wQ,tf,Nat.reduceAdd,wS,reduceCtorEq,c0,c1,c2,c3,c4,hca,hcb]
 refine aP (fun i e=>∃ t,e=⟨42,none,87,t,[],⟨1,0,Tr.leaf.set 0 (aX 0 [os,ts,us,is,no])⟩,.no⟩/\t.val 1=bF a/\t.val 2=bF b/\t.val 3=.ptr 0 0 0/\t.val 7=.int .i64 (i:Nat)/\i<=a.length/\tM os a b=((a.drop i).any fun x=>decide (x∈b)&&DM os x)) (fun i=>a.length-i) 0
  ⟨_,rfl,by simp +decide only [↓ aB,aE,aC],by simp +decide only [↓ aB,aE,aC],by simp +decide only [↓ aB,aE,aC],by simp +decide only [↓ aB,aE,aC];rfl,Nat.zero_le _,rfl⟩ ?_
 rintro i _ ⟨t,rfl,t1,t2,t3,t7,hi,hq2⟩
 have hal:(aQ a).length=a.length:=bH
 rcases Nat.lt_or_ge i a.length with hlt | hge
 ·have hgi:=List.getElem?_eq_getElem hlt
  have hmi:=List.getElem_mem hlt
  rw [List.drop_eq_getElem_cons hlt,List.any_cons]at hq2
  generalize a[i]=x at *
  have hx:=ha x hmi
  rw [hels]at hx
  obtain ⟨ob,hDx,hm,hgx,_,hix,_,hcl⟩:=bK (k:=4) (fun x h=>tk_ob.len h) hTos (show xs.length<=9223372036854775807 by have:=hs.2;omega) hx
  have hsh:DM os x=shB ob:=by rw [DM,hels,List.getD_eq_getElem?_getD,hgx];rfl
  obtain ⟨k,c,d,e,rfl,⟨k,rfl⟩,⟨m,rfl⟩,_,_⟩:=hDx
  have hsk:shB (.agg [.int .i64 k,.int .i64 m,d,e])=(decide (k=3)||(decide (k=4)||decide (k=6))):=rfl
  rw [hsh,hsk]at hq2
  have hia:=fun {q:IntKind} {d:Option AV}=>jV (k:=1) (xs:=aQ a) (n:=(i:Nat)) (by omega) (fK hgi) rfl (q:=q) (d:=d)
  have hqx:=hq x
  have k1:(((i:Nat):Int)<((a.length:Nat):Int))=True:=eq_true (by omega)
  have hw1:IntKind.i64.wrap ((i:Int)+1)=((i+1:Nat):Int):=by rw [IntWalk.i64_in _ (by omega)];rfl
  by_cases hb:x∈b
  ·rw [decide_eq_true hb]at hqx hq2
   rw [Bool.true_and]at hq2
   by_cases h3:k=3
   ·subst h3
    simp +contextual +decide (maxSteps:=1000000) only [↓ wP,wQ,tf,Nat.reduceAdd,wS,reduceCtorEq,t1,t2,t3,t7,hsa.len,hal,hsa.idx,hia,hs.idx,hix,hqx,k1,hq2]
   by_cases h4:k=4
   ·subst h4
    simp +contextual +decide (maxSteps:=1000000) only [↓ wP,wQ,tf,Nat.reduceAdd,wS,reduceCtorEq,t1,t2,t3,t7,hsa.len,hal,hsa.idx,hia,hs.idx,hix,hqx,k1,hq2]
   by_cases h6:k=6
   ·subst h6
    simp +contextual +decide (maxSteps:=1000000) only [↓ wP,wQ,tf,Nat.reduceAdd,wS,reduceCtorEq,t1,t2,t3,t7,hsa.len,hal,hsa.idx,hia,hs.idx,hix,hqx,k1,hq2]
   ·rw [decide_eq_false h3,decide_eq_false h4,decide_eq_false h6]at hq2
    simp +contextual +decide (maxSteps:=1000000) only [↓ wP,wQ,tf,Nat.reduceAdd,wS,reduceCtorEq,t1,t2,t3,t7,hsa.len,hal,hsa.idx,hia,hs.idx,hix,hqx,k1,hw1,h3,h4,h6]
    exact ⟨i+1,by show _-_<_-_;omega,_,rfl,by simp +decide only [↓ aB,aE,aC,t1],by simp +decide only [↓ aB,aE,aC,t2],by simp +decide only [↓ aB,aE,aC,t3],by simp +decide only [↓ aB,aE,aC],hlt,hq2⟩
  ·rw [decide_eq_false hb]at hqx hq2
   rw [Bool.false_and,Bool.false_or]at hq2
   simp +contextual +decide (maxSteps:=1000000) only [↓ wP,wQ,tf,Nat.reduceAdd,wS,reduceCtorEq,t1,t2,t3,t7,hsa.len,hal,hsa.idx,hia,hs.idx,hix,hqx,k1,hw1]
   exact ⟨i+1,by show _-_<_-_;omega,_,rfl,by simp +decide only [↓ aB,aE,aC,t1],by simp +decide only [↓ aB,aE,aC,t2],by simp +decide only [↓ aB,aE,aC,t3],by simp +decide only [↓ aB,aE,aC],hlt,hq2⟩
 ·obtain rfl:i=a.length:=Nat.le_antisymm hi hge
  rw [List.drop_length,List.any_nil]at hq2
  have k1:(((a.length:Nat):Int)<((a.length:Nat):Int))=False:=eq_false (Int.lt_irrefl _)
  simp +contextual +decide (maxSteps:=1000000) only [↓ wP,wQ,tf,Nat.reduceAdd,wS,reduceCtorEq,t1,t2,t3,t7,hsa.len,hal,k1,hq2]
end
section
variable {os ts us is no:AV}
def mO (os ts:AV) (i:Nat):List Nat:=bX os.els (bS ts i)
theorem EF {a b:List Nat}:tM os a b=true↔∃ n,n∈a/\n∈b/\DM os n=true:=by
 simp only [tM,List.any_eq_true,Bool.and_eq_true,decide_eq_true_eq]
def AH (os ts:AV) (i:Nat):List Nat:=(List.range ts.els.length).filter fun j=>tM os (mO os ts i) (mO os ts j)
theorem lL {i j:Nat}:j∈AH os ts i↔j<ts.els.length/\tM os (mO os ts i) (mO os ts j)=true:=by
 rw [AH,List.mem_filter,List.mem_range]
theorem YP {i j:Nat}:Abs.Way (AH os ts) i j↔Isle ts.els.length (mO os ts) (DM os) i j:=by
 constructor
 ·intro h
  induction h with
  | refl _=>exact .refl _
  | step h1 _ ih=>exact .step (lL.1 h1).1 (EF.1 (lL.1 h1).2) ih
 ·intro h
  induction h with
  | refl _=>exact .refl _
  | step h1 h2 _ ih=>exact .step (lL.2 ⟨h1,EF.2 h2⟩) ih
theorem FS (hm:ts.els.length<=120) {i:Nat} (hi:i<ts.els.length):cW (cN os ts) i=AJ ts.els.length (mO os ts) (DM os) i:=by
 unfold cW cN TV
 rw [List.getD_eq_getElem?_getD,List.getElem?_map,List.getElem?_range (by omega)]
 show (if i<ts.els.length then _ else _)=_
 rw [if_pos hi];rfl
theorem FT (hm:ts.els.length<=120) {i k:Nat} (hi:i<ts.els.length) (hk:k<ts.els.length):cW (cN os ts) i=cW (cN os ts) k↔Isle ts.els.length (mO os ts) (DM os) k i:=by
 rw [FS hm hi,FS hm hk]
 obtain ⟨p1,p2,p3⟩:=sI (R:=mO os ts) (sh:=DM os) hi
 obtain ⟨q1,q2,q3⟩:=sI (R:=mO os ts) (sh:=DM os) hk
 constructor
 ·intro e
  rw [<-e]at q1
  exact q1.trans (p1.symm hi)
 ·intro h
  exact Nat.le_antisymm (p3 _ q2 ((h.symm hk).trans q1)) (q3 _ p2 (h.trans p1))
theorem YQ (h:GW os ts us is no) {k:Nat} (hk:k<ts.els.length) {R:List Nat} (hW:WLg (AH os ts) ts.els.length k R.length R):uV R ts.els.length=fF os ts k:=by
 refine List.filter_congr fun x hx=>?_
 rw [decide_eq_decide,FT (Nat.le_trans h.l h.ol) (List.mem_range.1 hx) hk,<-YP]
 exact WLg.fin hW
def FU (a:AV):List Nat:=a.els.map fun x=>x.num.toNat
theorem uU {l:List Nat} (h:l.length<=1000):FU (bF l)=l:=by
 rw [FU,(nW h).els,aQ,List.map_map]
 conv=>rhs;rw [<-List.map_id l]
 exact List.map_congr_left fun x _=>rfl
abbrev sF (os ts us is no:AV):List AV->Option AV:=VJ (fun w a b=>w=dY os ts us is no/\∃ i j:Nat,a=bF (mO os ts i)/\b=bF (mO os ts j)) fun _ a b=>.bool (tM os (FU a) (FU b))
theorem nX (h:GW os ts us is no) {i:Nat}:(mO os ts i).length<=1000:=Nat.le_trans (jE _ _) (by have:=h.ol;omega)
theorem NB (h:GW os ts us is no):Abs.Ok Tryz.prog 87 (sF os ts us is no):=ok3 fun w a b ⟨e1,i,j,e2,e3⟩=>by
 subst e1;subst e2;subst e3
 rw [uU (nX h),uU (nX h)]
 exact NA h (fun x hx=>(jD.1 hx).1) (nX h) (nX h)
theorem AI {l:List Nat}:(bF l).cells.length=1:=by unfold bF bL;split<;>rfl
def hIs:cU:=fun r=>if r=8 then ([17],[1000]) else ([],[])
theorem aJb:hIs 8=([17],[1000]):=rfl
theorem RH (h:GW os ts us is no):Sl (uT os ts) (tY os ts ts.els.length):=lW (by rw [AG];have:=h.l;have:=h.ol;omega)
theorem YR (h:GW os ts us is no):UnderE 0 (uT os ts):=nM (RH h) fun x hx=>(sE h x hx).2
set_option maxHeartbeats 8000000 in
theorem YS (h:GW os ts us is no) {k:Nat} (hk:k<ts.els.length):Abs.Returns Tryz.prog 39 [dY os ts us is no,uT os ts,.int .i64 (k:Nat)] (bF (fF os ts k)):=by
 have huw:=h.g.und
 obtain ⟨c0,c1,c2,c3,c4⟩:=h.g.cells
 have hm:ts.els.length<=120:=Nat.le_trans h.l h.ol
 have hal:=RH h
 have hca:(uT os ts).isCell=true:=by unfold uT;split<;>rfl
 have hll:(tY os ts ts.els.length).length=ts.els.length:=AG
 have s1:∀ {a:AV},[AV.int .i64 0].set (0*1) a=[a]:=rfl
 have hat:∀ i,i<ts.els.length->(tY os ts ts.els.length)[i]?=some (bF (mO os ts i)):=fun i hi=>by
  rw [tY,List.getElem?_map,List.getElem?_range hi];rfl
 refine bW (L:=[ent 87 (sF os ts us is no),fJ 86 EE,fJ 66 uW]) (elist_cons (NB h).ent (elist_cons YM (elist_cons RN aG))) hIs (by kernel_rfl) Tryz.func39 Tryz.ntmps39 Tryz.results39 rfl rfl (aA huw.und (aA (YR h).und (aA aS aF))) ?_
 simp +contextual +decide (maxSteps:=1000000) only [↓ wP,wQ,tf,Nat.reduceAdd,wS,reduceCtorEq,c0,c1,c2,c3,c4,hca,s1]
 refine aP (fun j e=>∃ t n low o v R,e=⟨51,none,39,t,[],⟨n,low,o⟩,.no⟩/\t.val 1=uT os ts/\t.val 3=.ptr 0 0 0/\t.val 7=v/\t.val 8=.int .i64 (j:Nat)/\o.get 0=some (aX 0 [os,ts,us,is,no])/\1<=n/\AccI 1 v n o (aQ R)/\WLg (AH os ts) ts.els.length k j R) (fun j=>ts.els.length-j) 0
  ⟨_,_,_,_,.sl 1 0 0 1 (.is 1),[k],rfl,by simp +decide only [↓ aB,aE,aC],by simp +decide only [↓ aB,aE,aC],by simp +decide only [↓ aB,aE,aC],by simp +decide only [↓ aB,aE,aC];rfl,by simp +decide only [↓ aB,aJ,aC,ne_eq],by omega,.inr ⟨by simp [aQ],1,0,.is 1,rfl,.inr rfl,Tr.get_set_same _ _ _,Nat.le_refl _,by omega⟩,{nd:=by simp,lt:=fun x hx=>by obtain rfl:=List.mem_singleton.1 hx;exact ⟨hk,.refl _⟩,ro:=List.mem_singleton.2 rfl,jl:=Nat.zero_le _,cl:=fun i n hi=>(Nat.not_lt_zero _ hi).elim}⟩ ?_
 rintro j _ ⟨t,n,low,o,v,R,rfl,t1,t3,t7,t8,g0,hn,hA,hW⟩
 have hRl:=hW.len
 have hjl:=hW.jl
 have hA0:=hA
 rcases hA with ⟨e,_⟩ | ⟨h0,id2,g2,c2,rfl,_,hg2,hlo2,hlt2⟩
 ·have:=hW.ro
  rw [List.map_eq_nil_iff.1 e]at this;cases this
 rw [bH]at t7 hA0
 rcases Nat.lt_or_ge j R.length with hlt | hge
 ·have hRj:=List.getElem?_eq_getElem hlt
  have hmR:=List.getElem_mem hlt
  have hRj0:=hRj
  generalize R[j]=m at hRj hmR
  obtain ⟨hmN,hmW⟩:=hW.lt m hmR
  have k1:(((j:Nat):Int)<((R.length:Nat):Int))=True:=eq_true (by omega)
  have hwj:IntKind.i64.wrap ((j:Int)+1)=((j+1:Nat):Int):=by rw [IntWalk.i64_in _ (by omega)];rfl
  simp +contextual +decide (maxSteps:=1000000) only [↓ wP,wQ,tf,Nat.reduceAdd,wS,reduceCtorEq,t1,t3,t7,t8,k1]
  refine aP (fun q e=>∃ t n low o v R',e=⟨51,none,39,t,[],⟨n,low,o⟩,.no⟩/\t.val 1=uT os ts/\t.val 3=.ptr 0 0 0/\t.val 7=v/\t.val 8=.int .i64 (j:Nat)/\t.val 9=.int .i64 (q:Nat)/\o.get 0=some (aX 0 [os,ts,us,is,no])/\1<=n/\AccI 1 v n o (aQ R')/\WLg (AH os ts) ts.els.length k j R'/\R <+: R'/\(∀ y,y<q->tM os (mO os ts m) (mO os ts y)=true->y∈R')/\q<=ts.els.length) (fun q=>ts.els.length-q) 0
   ⟨_,_,_,_,_,R,rfl,by simp +decide only [↓ aB,aE,aC,t1],by simp +decide only [↓ aB,aE,aC,t3],by simp +decide only [↓ aB,aE,aC,t7],by simp +decide only [↓ aB,aE,aC,t8],by simp +decide only [↓ aB,aE,aC];rfl,g0,hn,hA0,hW,List.prefix_rfl,fun y hy=>(Nat.not_lt_zero _ hy).elim,Nat.zero_le _⟩ ?_
  clear t1 t3 t7 t8 g0 hn hA0 hW hg2 hlt2 hlo2
  rintro q _ ⟨t,n,low,o,v,R',rfl,t1,t3,t7,t8,t9,g0,hn,hA,hW,hpre,hrq,hq⟩
  have f0:=dR (show 0<n by omega)
  have hu:=AccI.und hA
  have hRl':=hW.len
  have hA0:=hA
  rcases hA with ⟨e,_⟩ | ⟨h0',id3,g3,c3',rfl,_,hg3,hlo3,hlt3⟩
  ·have:=hW.ro
   rw [List.map_eq_nil_iff.1 e]at this;cases this
  rw [bH]at t7 hA0 hu
  have f3:=dR hlt3
  rcases Nat.lt_or_ge q ts.els.length with hlt2 | hge2
  ·have hRj':R'[j]?=some m:=by
    have:=List.prefix_iff_getElem?.1 hpre j hlt
    rw [hRj0.symm.trans hRj]at this;exact this
   have hjR:j<R'.length:=(List.getElem?_eq_some_iff.1 hRj').1
   have hjk:=fK hRj'
   have k2:(((j:Nat):Int)<((R'.length:Nat):Int))=True:=eq_true (by omega)
   have k3:(0<=((j:Nat):Int))=True:=eq_true (by omega)
   have k4:(((q:Nat):Int)<((ts.els.length:Nat):Int))=True:=eq_true (by omega)
   have hwq:IntKind.i64.wrap ((q:Int)+1)=((q+1:Nat):Int):=by rw [IntWalk.i64_in _ (by omega)];rfl
   have hli:=YO (RowN.acc (low:=low) hA0) (by omega) q [fJ 66 uW]
   have hli':orcL [ent 87 (sF os ts us is no),fJ 86 EE,fJ 66 uW] 86 [.sl id3 g3 0 R'.length c3',.int .i64 (q:Nat)] ⟨n,low,o⟩=_:=hli
   have hshv:sF os ts us is no [dY os ts us is no,bF (mO os ts m),bF (mO os ts q)]=some (.bool (tM os (mO os ts m) (mO os ts q))):=by
    rw [sF,kS ⟨rfl,m,q,rfl,rfl⟩,uU (nX h),uU (nX h)]
   have him:=fun {q:IntKind} {d:Option AV}=>jV (k:=1) (xs:=tY os ts ts.els.length) (n:=(m:Nat)) (by omega) (hat m hmN) AI (q:=q) (d:=d)
   have hiq:=fun {q':IntKind} {d:Option AV}=>jV (k:=1) (xs:=tY os ts ts.els.length) (n:=(q:Nat)) (by omega) (hat q hlt2) AI (q:=q') (d:=d)
   have hks:mB n ⟨n,low,o⟩ ⟨n,low,o⟩:=fun _ _=>rfl
   by_cases hin:q∈R'
   ·rw [decide_eq_true hin]at hli'
    simp +contextual +decide (maxSteps:=1000000) only [↓ wP,wQ,tf,Nat.reduceAdd,wS,reduceCtorEq,aJb,t1,t3,t7,t8,t9,g0,f0,f3,k4,hal.len,hll,hli',hu,hwq,hks]
    refine ⟨q+1,by show _-_<_-_;omega,_,_,_,_,_,R',rfl,by simp +decide only [↓ aB,aE,aC,t1],by simp +decide only [↓ aB,aE,aC,t3],by simp +decide only [↓ aB,aE,aC,t7],by simp +decide only [↓ aB,aE,aC,t8],by simp +decide only [↓ aB,aE,aC],g0,hn,hA0,hW,hpre,fun y hy hb=>?_,hlt2⟩
    rcases Nat.lt_or_ge y q with hy' | hy'
    ·exact hrq y hy' hb
    ·obtain rfl:y=q:=by omega
     exact hin
   ·rw [decide_eq_false hin]at hli'
    cases hbo:tM os (mO os ts m) (mO os ts q) with
    | false=>
      rw [hbo]at hshv
      simp +contextual +decide (maxSteps:=1000000) only [↓ wP,wQ,tf,Nat.reduceAdd,wS,reduceCtorEq,aJb,t1,t3,t7,t8,t9,g0,f0,f3,dA,k2,k3,k4,hg3,hjk,hal.len,hal.idx,hll,him,hiq,hli',hshv,hu,hks,hwq,cD,Int.toNat_natCast,Nat.mul_one,Nat.zero_add]
      refine ⟨q+1,by show _-_<_-_;omega,_,_,_,_,_,R',rfl,by simp +decide only [↓ aB,aE,aC,t1],by simp +decide only [↓ aB,aE,aC,t3],by simp +decide only [↓ aB,aE,aC,t7],by simp +decide only [↓ aB,aE,aC,t8],by simp +decide only [↓ aB,aE,aC],g0,hn,hA0,hW,hpre,fun y hy hb=>?_,hlt2⟩
      rcases Nat.lt_or_ge y q with hy' | hy'
      ·exact hrq y hy' hb
      ·obtain rfl:y=q:=by omega
       rw [hbo]at hb;cases hb
    | true=>
      rw [hbo]at hshv
      have hA':AccI 1 (.sl id3 g3 0 R'.length c3') (n+1) (o.set n (aX 0 [.int .i64 (q:Nat)])) _:=hA0.keep (Nat.le_succ n) fun id _ h2=>Tr.get_set_ne _ _ (by omega)
      obtain ⟨v',n',low',o',q1,q2,q3,q4,_⟩:=hA'.app (low:=low) (by_:=8) fW (x:=.int .i64 (q:Nat)) rfl (by omega) (by rw [bH];omega)
      simp +contextual +decide (maxSteps:=1000000) only [↓ wP,wQ,tf,Nat.reduceAdd,wS,reduceCtorEq,aJb,t1,t3,t7,t8,t9,g0,f0,f3,dA,k2,k3,k4,hg3,hjk,hal.len,hal.idx,hll,him,hiq,hli',hshv,hu,hks,hwq,s1,q1,cD,Int.toNat_natCast,Nat.mul_one,Nat.zero_add]
      have hnx:q<ts.els.length/\Abs.Way (AH os ts) k q:=⟨hlt2,hmW.trans (.step (lL.2 ⟨hlt2,hbo⟩) (.refl _))⟩
      have hpu:uB R' q=R'++[q]:=if_neg hin
      refine ⟨q+1,by show _-_<_-_;omega,_,_,_,_,v',uB R' q,rfl,by simp +decide only [↓ aB,aE,aC,t1],by simp +decide only [↓ aB,aE,aC,t3],by simp +decide only [↓ aB,aE,aC],by simp +decide only [↓ aB,aE,aC,t8],by simp +decide only [↓ aB,aE,aC],?_,by omega,?_,hW.put hnx,hpre.trans putN_pre,fun y hy hb=>?_,hlt2⟩
      ·rw [q4 0 (by omega),Tr.get_set_ne _ _ (by omega)];exact g0
      ·rw [hpu,oX];exact q2
      ·rcases Nat.lt_or_ge y q with hy' | hy'
       ·exact lS.2 (.inl (hrq y hy' hb))
       ·exact lS.2 (.inr (by omega))
  ·obtain rfl:q=ts.els.length:=Nat.le_antisymm hq hge2
   have k4:(((ts.els.length:Nat):Int)<((ts.els.length:Nat):Int))=False:=eq_false (Int.lt_irrefl _)
   simp +contextual +decide (maxSteps:=1000000) only [↓ wP,wQ,tf,Nat.reduceAdd,wS,reduceCtorEq,t1,t3,t7,t8,t9,k4,hal.len,hll,hwj]
   have hRj':R'[j]?=some m:=by
    have:=List.prefix_iff_getElem?.1 hpre j hlt
    rw [hRj0.symm.trans hRj]at this;exact this
   exact ⟨j+1,by show _-_<_-_;omega,_,_,_,_,_,R',rfl,by simp +decide only [↓ aB,aE,aC,t1],by simp +decide only [↓ aB,aE,aC,t3],by simp +decide only [↓ aB,aE,aC,t7],by simp +decide only [↓ aB,aE,aC],g0,hn,hA0,hW.step hRj' fun y hy=>hrq y (lL.1 hy).1 (lL.1 hy).2⟩
 ·obtain rfl:j=R.length:=Nat.le_antisymm hjl hge
  have hfin:=YQ h hk hW
  have hsg:=RL (RowN.acc (low:=low) hA0) (by omega) (N:=ts.els.length) (by omega) []
  rw [hfin]at hsg
  have hsg':orcL [ent 87 (sF os ts us is no),fJ 86 EE,fJ 66 uW] 66 [.sl id2 g2 0 R.length c2,.int .i64 (ts.els.length:Nat)] ⟨n,low,o⟩=_:=hsg
  have k1:(((R.length:Nat):Int)<((R.length:Nat):Int))=False:=eq_false (by omega)
  simp +contextual +decide (maxSteps:=1000000) only [↓ wP,wQ,tf,Nat.reduceAdd,wS,reduceCtorEq,t1,t3,t7,t8,k1,hal.len,hll,hsg']
  exact .und _ (iJ (Nat.le_trans (sG os ts k) (by omega))).und
end
end
end Go.Proofs.YtdipddlhenoglaaGreat
