/-
  Reach, by the reference.
-/
import Derived.Test.YtdipddlhenoglaaGreatZn
set_option linter.unusedVariables false
set_option linter.unusedSimpArgs false
namespace Go.Proofs.YtdipddlhenoglaaGreat
open Go.Abs Go Go.Abs.TryzF
noncomputable section
set_option maxRecDepth 10000
structure WLg (g:Nat->List Nat) (N:Nat) (r:Nat) (j:Nat) (R:List Nat):Prop where
 nd:R.Nodup
 lt:∀ x∈R,x<N/\Abs.Way g r x
 ro:r∈R
 jl:j<=R.length
 cl:∀ i n,i<j->R[i]?=some n->∀ y∈g n,y∈R
abbrev WL (A:List AV) (r:Nat) (j:Nat) (R:List Nat):Prop:=WLg (gY A) A.length r j R
theorem eQ {R:List Nat} {x y:Nat}:y∈nO R x↔y∈R∨y=x:=by
 unfold nO;split
 ·exact ⟨.inl,fun h=>h.elim id fun e=>e ▸ ‹_›⟩
 ·simp
theorem putN_pre {R:List Nat} {x:Nat}:R <+: nO R x:=by
 unfold nO;split
 ·exact List.prefix_rfl
 ·exact List.prefix_append ..
theorem JI {R:List Nat} {x:Nat} (h:R.Nodup):(nO R x).Nodup:=by
 unfold nO;split
 ·exact h
 ·rename_i f
  refine List.nodup_append.2 ⟨h,by simp,fun a c b d=>?_⟩;obtain rfl:=List.mem_singleton.1 d
  exact fun e=>f (e ▸ c)
theorem WLg.put {g:Nat->List Nat} {N r j:Nat} {R:List Nat} (h:WLg g N r j R) {x:Nat} (f:x<N/\Abs.Way g r x):WLg g N r j (nO R x) where
 nd:=JI h.nd
 lt:=fun y b=>by
  rcases eQ.1 b with b | rfl
  ·exact h.lt y b
  ·exact f
 ro:=eQ.2 (.inl h.ro)
 jl:=Nat.le_trans h.jl putN_pre.length_le
 cl:=fun i n d e y b=>by
  have a:i<R.length:=Nat.lt_of_lt_of_le d h.jl;have c:=List.prefix_iff_getElem?.1 (putN_pre (R:=R) (x:=x)) i a;rw [e]at c;exact eQ.2 (.inl (h.cl i n d (by rw [List.getElem?_eq_getElem a];exact c.symm) y b))
theorem WLg.len {g:Nat->List Nat} {N r j:Nat} {R:List Nat} (h:WLg g N r j R):R.length<=N:=by
 have:=lU (cO R) (cO (List.range N)) (List.pairwise_map.2 (h.nd.imp fun h e=>h aD)) fun x a=>by
  obtain ⟨y,b,rfl⟩:=List.mem_map.1 a;exact List.mem_map.2 ⟨y,List.mem_range.2 (h.lt y b).1,rfl⟩
 simpa [cO] using this
theorem WLg.fin {g:Nat->List Nat} {N r:Nat} {R:List Nat} (h:WLg g N r R.length R) {x:Nat}:x∈R↔Abs.Way g r x:=by
 constructor
 ·exact fun d=>(h.lt x d).2
 ·intro c
  refine WV (g:=g) (t:=[r]) (fun y a=>?_) (fun y a z e=>?_) ⟨r,List.mem_singleton.2 rfl,c⟩
  ·obtain rfl:=List.mem_singleton.1 a;exact h.ro
  ·obtain ⟨i,b,rfl⟩:=List.mem_iff_getElem.1 a
   exact h.cl i _ b (List.getElem?_eq_getElem b) z e
theorem WL.fin {A:List AV} {r:Nat} {R:List Nat} (h:WL A r R.length R):vS R A.length=cR A r:=by
 refine List.filter_congr fun x _=>?_
 rw [decide_eq_decide];exact WLg.fin h
theorem WLg.step {g:Nat->List Nat} {N r j n:Nat} {R:List Nat} (h:WLg g N r j R) (c:R[j]?=some n) (f:∀ y∈g n,y∈R):WLg g N r (j+1) R where
 nd:=h.nd
 lt:=h.lt
 ro:=h.ro
 jl:=(List.getElem?_eq_some_iff.1 c).1
 cl:=fun i m k b y d=>by
  rcases Nat.lt_or_ge i j with a | e
  ·exact h.cl i m a b y d
  ·obtain rfl:i=j:=by omega
   rw [c]at b;cases b;exact f y d
theorem DE {l:List AV} {i:Nat} {v:AV} (h:l[i]?=some v):jZ (l.take (i+1))=jZ (l.take i)++(if (v.fld 0).num=5 then [(v.fld 1).num.toNat] else []):=by
 rw [List.take_add_one,h,jZ,List.filterMap_append]
 congr 1
 by_cases h:(v.fld 0).num=5<;>simp [h]
theorem AccI.uniq {lo n:Nat} {v:AV} {o:Tr AObj} {R f:List AV} (h:AccI lo v n o R) (k:AccI lo v n o f):R=f:=by
 rcases h with ⟨rfl,rfl⟩ | ⟨r,id,g,c,rfl,_,q,_⟩
 ·rcases k with ⟨rfl,b⟩ | ⟨d,e,m,l,b,_,a,_⟩
  ·rfl
  ·cases b
 ·rcases k with ⟨rfl,b⟩ | ⟨d,e,m,l,b,_,a,_⟩
  ·cases b
  ·obtain ⟨rfl,rfl,_⟩:=AV.sl.inj b
   rw [q]at a;exact (uT (Option.some.inj a)).2
theorem CF {lo:Nat} {s:Sto} {v:AV} {l:List Nat} (h:AccI lo v s.n s.o (aP l)) (b:lo<=s.n) (q:l.length<=900) (x:Nat):
 ∃ v' S,(AccI lo v' S.n S.o (aP (nO l x))/\s.n<=S.n/\(∀ id,id<lo->S.o.get id=s.o.get id)/\(∀ m,m<=lo->m<=s.low->m<=S.low))/\∀ L,orcL (dC 65 (DH lo)::L) 65 [v,.int .i64 (x:Nat)] s=some (.ret v' (some S)):=by
 obtain ⟨res,c,d⟩:=kY (f:=65) (ZF h b q x);obtain ⟨v1,r,u,a,e,⟨v',S,rfl,k⟩,_⟩:=c;simp only [List.cons.injEq,AV.int.injEq,true_and,and_true]at a;obtain ⟨rfl,a⟩:=a
 obtain rfl:x=u:=by omega
 obtain rfl:l=r:=zN (AccI.uniq h e);exact ⟨v',S,k,d⟩
theorem WM {lo:Nat}:bY Tryz.prog (dC 65 (DH lo)):=mB fun _ _ _ h=>by obtain ⟨_,_,_,_,_,_,h⟩:=h;exact h
abbrev sJ:List AV->Option AV:=uS xK fun o=>bJ (cW o)
theorem qvalV_ok:Abs.Ok Tryz.prog 88 sJ:=AJ fun o h=>RZ h
theorem AccI.und {lo n:Nat} {v:AV} {o:Tr AObj} {R:List AV} (h:AccI lo v n o R):UnderE n v:=by
 rcases h with ⟨_,rfl⟩ | ⟨_,id,g,c,rfl,_,_,_,h⟩
 ·exact ⟨1,rfl⟩
 ·exact ⟨1,by simpa [AV.under] using h⟩
section
variable {os ts us is no:AV}
def hRc (n:Nat):cQ:=fun r=>if r=5 then ([],[1000,rQ n,10]) else if r=9 then ([8],[]) else ([],[])
theorem aSu {n:Nat}:hRc n 5=([],[1000,rQ n,10]):=rfl
theorem aSv {n:Nat}:hRc n 9=([8],[]):=rfl
def aKm (os ts us is no:AV) (args:List AV) (s:Sto) (res:CRes):Prop:=∃ id g c k,args=[fS os ts us is no,.sl id g 0 1 c]/\s.get id=some (aR g [.int .i64 ((k:Nat):Int)])/\res=.ret (aQ (cR os.els (aZ ts k))) none/\bT Tryz.prog 41 args s res
set_option maxHeartbeats 4000000 in
theorem ZA (h:GW os ts us is no) {s:Sto} {id g k0:Nat} {c:ACap} (hg:s.get id=some (aR g [.int .i64 (k0:Nat)])) (hk:k0<ts.els.length):∃ res,aKm os ts us is no [fS os ts us is no,.sl id g 0 1 c] s res:=by
 refine ⟨_,id,g,c,k0,rfl,hg,rfl,?_⟩;obtain ⟨n0,bq,o0⟩:=s;have al:id<n0:=Sto.get_lt hg;rw [Sto.get_mk al]at hg;refine uL (L:=[ent 88 sJ,dC 65 (DH (n0+1)),dC 66 pB]) (elist_cons qvalV_ok.ent (elist_cons WM (elist_cons JO aE))) (hRc (n0+1)) (by kernel_rfl) Tryz.func41 Tryz.ntmps41 Tryz.results41 rfl rfl ?_;obtain ⟨c0,c1,c2,c3,c4⟩:=h.g.cells
 have bl:Sl ts ts.els:=by
  obtain ⟨xs,O,_⟩:=h.g.ts;rw [O.els];exact O
 have bk:Sl os os.els:=by
  obtain ⟨xs,O,_⟩:=h.g.os;rw [O.els];exact O
 obtain ⟨q1,q2⟩:=h.task hk;have f0:=fX al;refine LB @c0 @c1 @c2 @c3 @c4 ?_
 refine aM (fun i e=>∃ t n low o v,e=⟨65,none,41,t,[],⟨n,low,o⟩,.no⟩/\t.val 1=.sl id g 0 1 c/\t.val 2=.ptr n0 0 0/\t.val 5=v/\t.val 6=.int .i64 (i:Nat)/\o.get n0=some (aR 0 [os,ts,us,is,no])/\o.get id=some (aR g [.int .i64 (k0:Nat)])/\n0+1<=n/\n0<=low/\AccI (n0+1) v n o (aP (if i=0 then [] else [aZ ts k0]))/\i<=1) (fun i=>1-i) 0
  ⟨_,_,_,_,.nils,rfl,aG,aG,aG,eT,aG,ag2 @f0 @hg,Nat.le_refl _,Nat.le_refl _,.inl ⟨rfl,rfl⟩,Nat.zero_le _⟩ ?_
 rintro i _ ⟨t,n,low,o,v,rfl,t1,C,D,t6,w,g1,A,f,u,hi⟩;have T:=dQ (show n0<n by omega);have f2:=dQ (show id<n by omega)
 have am:id<n0+1:=by omega
 rcases Nat.lt_or_ge i 1 with F | U
 ·obtain rfl:i=0:=by omega
  obtain ⟨v',⟨n1,Q,o1⟩,⟨p1,p2,p3,p4⟩,p5⟩:=CF (s:=⟨n,low,o⟩) (lo:=n0+1) u A (by simp) (aZ ts k0);have Y:orcL [ent 88 sJ,dC 65 (DH (n0+1)),dC 66 pB] 65 [v,.int .i64 (aZ ts k0:Nat)] ⟨n,low,o⟩=_:=p5 [dC 66 pB]
  have V:=fun {q:IntKind} {d:Option AV}=>qQ (k:=1) (xs:=ts.els) (n:=(k0:Nat)) aD q2 rfl (q:=q) (d:=d)
  have P:[AV.int IntKind.i64 (k0:Nat)][0+(((0:Nat):Int)).toNat*1]?=some (.int .i64 (k0:Nat)):=rfl;have hu:=AccI.und u;have ax:n<=n1:=p2;have ks:kM (sE n (n0+1)) ⟨n,low,o⟩ ⟨n1,Q,o1⟩:=pD (Nat.min_le_right _ _) A p2 p3;simp +contextual +decide (maxSteps:=1000000) only [↓ wP,wQ,tf,Nat.reduceAdd,wS,aSu,uK,aFc,mS,P,t1,C,D,t6,w,g1,T,f2,gL,bl.idx,V,Y,am,hu,ax,ks];exact ⟨1,by decide,_,_,_,_,v',rfl,aN @t1,aN @C,aG,eT,(p3 n0 (Nat.lt_succ_self _)).trans w,(p3 id aD).trans g1,Nat.le_trans A p2,p4 n0 (Nat.le_succ _) f,p1,Nat.le_refl _⟩
 ·obtain rfl:i=1:=by omega
  rw [if_neg (by decide)]at u;refine NC @t1 @t6 ?_
  have r:WL os.els (aZ ts k0) 0 [aZ ts k0]:=
   {nd:=by simp,lt:=fun x hx=>by obtain rfl:=List.mem_singleton.1 hx;exact ⟨q1,.refl _⟩,ro:=List.mem_singleton.2 rfl,jl:=Nat.zero_le _,cl:=fun i n hi=>(Nat.not_lt_zero _ hi).elim}
  refine aM (fun j e=>∃ t n low o v R,e=⟨65,none,41,t,[],⟨n,low,o⟩,.no⟩/\t.val 2=.ptr n0 0 0/\t.val 5=v/\t.val 7=.int .i64 (j:Nat)/\o.get n0=some (aR 0 [os,ts,us,is,no])/\n0+1<=n/\n0<=low/\AccI (n0+1) v n o (aP R)/\WL os.els (aZ ts k0) j R) (fun j=>os.els.length-j) 0
   ⟨_,_,_,_,v,_,rfl,aN @C,aN @D,eT,w,A,f,u,r⟩ ?_
  clear t1 C D t6 w g1 A f u T f2 hi U r;rintro j _ ⟨t,n,low,o,v,R,rfl,C,D,S,w,A,f,u,r⟩;have T:=dQ (show n0<n by omega);have br:=r.len;have bt:=h.ol;have be:=r.jl;have J:=u;have hu:=AccI.und u
  rcases u with ⟨e,_⟩ | ⟨h0,bn,g2,c2,rfl,_,ag,ao,l⟩
  ·have:=r.ro
   rw [List.map_eq_nil_iff.1 e]at this;cases this
  rw [aV]at D J;have f3:=dQ l
  rcases Nat.lt_or_ge j R.length with F | U
  ·have ab:=List.getElem?_eq_getElem F
   have bf:=List.getElem_mem F;generalize R[j]=m at *;obtain ⟨ap,bg⟩:=r.lt m bf;obtain ⟨xs,O,ad⟩:=h.g.os;have E:=O.els;have ah:=h.a.good;have X:=h.a.refs;have bp:gY os.els m=jZ (cW (os.els.getD m .top)):=rfl;rw [E]at ap ah;obtain ⟨x,aa,hm,bb,_,V,hw,bs⟩:=bI (k:=4) (fun x h=>tk_ob.len h) ad (show xs.length<=9223372036854775807 by have:=O.2;omega) ap
   have bh:=fun {d:Option AV}=>tk_ob.pf aa (d:=d)
   have ak:=ah x hm;have bi:sJ [x]=some (bJ (cW x)):=cI ak;have bd:=cP ab;have k1:(((j:Nat):Int)<((R.length:Nat):Int))=True:=eq_true aD;have k2:(0<=((j:Nat):Int))=True:=eq_true aD
   have bm:IntKind.i64.wrap ((j:Int)+1)=((j+1:Nat):Int):=by rw [IntWalk.i64_in _ aD];rfl
   refine EP @aSv @C @D @S @w @T @f3 @ag @bd @k1 @k2 O.iX @V @bh @bi @Int.toNat_natCast @Nat.mul_one @Nat.zero_add ?_;have bu:(cW x).length<=100000:=ak.2.2;have az:∀ v∈cW x,nP v:=kX (pH aa);have H:Sl (bJ (cW x)) (cW x):=dX aD;have bj:=X x (by rw [E];exact hm)
   have aj:gY os.els m=jZ (cW x):=by rw [gY,E,List.getD_eq_getElem?_getD,bb];rfl
   generalize cW x=Z at *
   refine aM (fun k e=>∃ t n low o v I,e=⟨65,none,41,t,[],⟨n,low,o⟩,.no⟩/\t.val 2=.ptr n0 0 0/\t.val 5=v/\t.val 7=.int .i64 (j:Nat)/\t.val 8=bJ Z/\t.val 9=.int .i64 (k:Nat)/\o.get n0=some (aR 0 [os,ts,us,is,no])/\n0+1<=n/\n0<=low/\AccI (n0+1) v n o (aP I)/\WL os.els (aZ ts k0) j I/\R <+: I/\(∀ y∈jZ (Z.take k),y∈I)/\k<=Z.length) (fun k=>Z.length-k) 0
    ⟨_,_,_,_,_,R,rfl,aN @C,aN @D,aN @S,aG,eT,w,A,f,J,r,List.prefix_rfl,fun y hy=>(nomatch hy),Nat.zero_le _⟩ ?_
   clear C D S w A f J r T f3 ag l hu ao;rintro k _ ⟨t,n,low,o,v,I,rfl,C,D,S,t8,t9,w,A,f,u,r,G,M,hk⟩;have T:=dQ (show n0<n by omega);have hu:=AccI.und u;have bo:=r.len
   rcases Nat.lt_or_ge k Z.length with l | ai
   ·obtain ⟨y,ay,aq,bc,_,an,aw,ae⟩:=bI (k:=2) (fun x h=>tk_val.len h) az (show Z.length<=9223372036854775807 by omega) l
    have B:=DE bc;have ar:=bj y aq;obtain ⟨a,b,rfl,⟨ka,rfl⟩,⟨kb,rfl⟩⟩:=ay;rw [show ((AV.agg [.int .i64 ka,.int .i64 kb]).fld 0).num=ka from rfl,show ((AV.agg [.int .i64 ka,.int .i64 kb]).fld 1).num=kb from rfl]at B ar;by_cases h5:ka=5
    ·obtain ⟨r1,r2⟩:=ar h5
     subst h5;rw [if_pos rfl]at B
     obtain ⟨b,rfl⟩:∃ b:Nat,kb=(b:Nat):=⟨kb.toNat,aD⟩
     rw [Int.toNat_natCast]at B
     have hb:b∈gY os.els m:=by
      rw [aj];exact List.mem_filterMap.2 ⟨_,aq,by simp [AV.fld,AV.num]⟩
     have ba:b<os.els.length/\Abs.Way (gY os.els) (aZ ts k0) b:=⟨h.a.lt b hb,bg.trans (.step hb (.refl _))⟩
     obtain ⟨v',⟨n1,Q,o1⟩,⟨p1,p2,p3,p4⟩,p5⟩:=CF (s:=⟨n,low,o⟩) (lo:=n0+1) u A aD b;have Y:orcL [ent 88 sJ,dC 65 (DH (n0+1)),dC 66 pB] 65 [v,.int .i64 (b:Nat)] ⟨n,low,o⟩=_:=p5 [dC 66 pB];have ax:n<=n1:=p2;refine ap9 @D @t8 @t9 H.lX H.iX @an @aw @ae @Y ?_;refine ⟨k+1,by show _-_<_-_;omega,_,_,_,_,v',nO I b,rfl,aN @C,aG,aN @S,aN @t8,aG,(p3 n0 (Nat.lt_succ_self _)).trans w,Nat.le_trans A p2,p4 n0 (Nat.le_succ _) f,p1,r.put ba,G.trans putN_pre,?_,l⟩;intro z P;rw [B]at P
     rcases List.mem_append.1 P with P | P
     ·exact eQ.2 (.inl (M z P))
     ·exact eQ.2 (.inr (List.mem_singleton.1 P))
    ·rw [if_neg h5,List.append_nil]at B
     refine XL @t8 @t9 H.lX H.iX @an @aw @ae @h5 ?_;exact ⟨k+1,by show _-_<_-_;omega,_,_,_,_,v,I,rfl,aN @C,aN @D,aN @S,aN @t8,aG,w,A,f,u,r,G,by rw [B];exact M,l⟩
   ·obtain rfl:k=Z.length:=Nat.le_antisymm hk ai
    rw [List.take_length]at M;refine XK @S @t8 @t9 @bG H.lX @bm ?_
    have ac:I[j]?=some m:=by
     have:=List.prefix_iff_getElem?.1 G j F;rw [<-List.getElem?_eq_getElem F,ab]at this;exact this
    exact ⟨j+1,by show _-_<_-_;omega,_,_,_,_,v,I,rfl,aN @C,aN @D,aG,w,A,f,u,r.step ac (by rw [aj];exact M)⟩
  ·obtain rfl:j=R.length:=Nat.le_antisymm be U
   have af:=WL.fin r;have au:=JN (RowN.acc (low:=low) J) aD (N:=os.els.length) aD [];rw [af]at au;have av:orcL [ent 88 sJ,dC 65 (DH (n0+1)),dC 66 pB] 66 [.sl bn g2 0 R.length c2,.int .i64 (os.els.length:Nat)] ⟨n,low,o⟩=_:=au;have k1:(((R.length:Nat):Int)<((R.length:Nat):Int))=False:=eq_false aD;refine XL @C @D @S @k1 @w @T bk.lX @av ?_;refine ⟨rfl,_,rfl,?_⟩;refine AC ?_;exact ⟨f,.und _ ((eR (by have:=qH os.els (aZ ts k0);omega)).mono (Nat.zero_le _)).und⟩
theorem aEb (h:GW os ts us is no) {s:Sto} {id g k:Nat} {c:ACap} (d:s.get id=some (aR g [.int .i64 (k:Nat)])) (q:k<ts.els.length) (L:List mE):orcL (dC 41 (aKm os ts us is no)::L) 41 [fS os ts us is no,.sl id g 0 1 c] s=some (.ret (aQ (cR os.els (aZ ts k))) none):=by
 obtain ⟨res,e,l⟩:=kY (f:=41) (ZA h (c:=c) d q);obtain ⟨r,w,v,u,a,b,m,_⟩:=e;simp only [List.cons.injEq,AV.sl.injEq,true_and,and_true]at a;obtain ⟨rfl,rfl,rfl⟩:=a;rw [d]at b;have o:=(uT (Option.some.inj b)).2;simp only [List.cons.injEq,AV.int.injEq,true_and,and_true]at o
 obtain rfl:k=u:=by omega
 rw [<-m];exact l L
theorem aEc:bY Tryz.prog (dC 41 (aKm os ts us is no)):=mB fun _ _ _ h=>by obtain ⟨_,_,_,_,_,_,_,h⟩:=h;exact h
theorem ZB (h:GW os ts us is no) {k:Nat} (m:k<ts.els.length):Abs.Returns Tryz.prog 15 [fS os ts us is no,.int .i64 (k:Nat)] (aQ (cR os.els (aZ ts k))):=by
 have b:=h.g.und;obtain ⟨c0,d,e,f,l⟩:=h.g.cells;refine bM (L:=[dC 41 (aKm os ts us is no)]) (elist_cons aEc aE) aL (by kernel_rfl) Tryz.func15 Tryz.ntmps15 Tryz.results15 rfl rfl (aA b.und (aA aS aC)) ?_;have q:∀ {a:AV},[AV.int .i64 0].set (0*1) a=[a]:=rfl;have o:=aEb h (s:=⟨2,0,(Tr.leaf.set 0 (aR 0 [os,ts,us,is,no])).set 1 (aR 0 [.int .i64 (k:Nat)])⟩) (id:=1) (g:=0) (c:=.is 1) ((Sto.get_mk aD).trans (Tr.get_set_same _ _ _)) m [];refine ap7 @c0 @d @e @f @l @q @o ?_;exact .und _ (eR (by have:=qH os.els (aZ ts k);have:=h.ol;omega)).und
abbrev CG (os ts us is no:AV):List AV->Option AV:=sB (fun w t=>w=fS os ts us is no/\∃ k:Nat,k<ts.els.length/\t=.int .i64 (k:Nat)) fun _ t=>aQ (cR os.els (aZ ts t.num.toNat))
theorem RT (h:GW os ts us is no):Abs.Ok Tryz.prog 15 (CG os ts us is no):=ok2 fun w t ⟨e,k,a,e'⟩=>by
 subst e;subst e';exact ZB h a
end
theorem AU {P:Program} {f:FuncId} {args:List AV} {s:Sto} {v:AV} (h:bT P f args s (.ret v none)):bT P f args s (.ret v (some s)):=by
 obtain ⟨d,fn,e,k⟩:=h;refine ⟨d,fn,e,fun σ w A kd stk m a l b c=>?_⟩;obtain ⟨τ,V,w',fr,o,q,r,u⟩:=k σ w A kd stk m a l b c;exact ⟨τ,V,w',fr,o,q,QStp.stp r a,u⟩
def HN (args:List AV) (s:Sto) (res:CRes):Prop:=∃ b,RY args s (.ret b none)/\res=.ret b (some s)
theorem aEd:bY Tryz.prog (dC 86 HN):=mB fun _ _ _ h=>by
 obtain ⟨b,h,rfl⟩:=h;obtain ⟨_,_,_,_,_,_,h⟩:=h;exact AU h
theorem aEe {s:Sto} {v:AV} {l:List Nat} (h:RowN s v l) (m:l.length<=1000) (x:Nat) (L:List mE):orcL (dC 86 HN::L) 86 [v,.int .i64 (x:Nat)] s=some (.ret (.bool (decide (x∈l))) (some s)):=by
 obtain ⟨res,a⟩:=HP h m x;have e:=JM h a;subst e;obtain ⟨res,⟨b,d,rfl⟩,k⟩:=kY (f:=86) (R:=HN) ⟨_,_,a,rfl⟩;have c:=JM h d;cases c;exact k L
section
variable {os ts us is no:AV}
theorem dU {l:List Nat} (h:l.length<=1000):Sl (aQ l) (aP l):=by rw [pF];exact NQ h
def wE (os ts:AV) (n:Nat):List AV:=(List.range n).map fun i=>aQ (cR os.els (aZ ts i))
def zM (os ts:AV):AV:=if (wE os ts ts.els.length).length=0 then .nils else .fz (wE os ts ts.els.length) false
theorem uF (h:GW os ts us is no) {n:Nat}:∀ x∈wE os ts n,x.isCell=true/\UnderE 0 x:=fun x a=>by
 obtain ⟨i,_,rfl⟩:=List.mem_map.1 a;exact ⟨cD,eR (Nat.le_trans (qH _ _) (by have:=h.ol;omega))⟩
theorem DF {os ts:AV} {n:Nat}:(wE os ts n).length=n:=by simp [wE]
set_option maxHeartbeats 4000000 in
theorem aKn (h:GW os ts us is no):Abs.Returns Tryz.prog 38 [fS os ts us is no] (zM os ts):=by
 have y:=h.g.und;obtain ⟨c0,H,I,J,M⟩:=h.g.cells;have U:ts.els.length<=120:=Nat.le_trans h.l h.ol
 have d:Sl ts ts.els:=by
  obtain ⟨xs,D,_⟩:=h.g.ts;rw [D.els];exact D
 refine bM (L:=[ent 15 (CG os ts us is no)]) (elist_cons (RT h).ent aE) aL (by kernel_rfl) Tryz.func38 Tryz.ntmps38 Tryz.results38 rfl rfl (aA y.und aC) ?_;refine LB @c0 @H @I @J @M ?_
 refine aM (fun i e=>∃ t n low o v,e=⟨19,none,38,t,[],⟨n,low,o⟩,.no⟩/\t.val 1=.ptr 0 0 0/\t.val 3=v/\t.val 4=.int .i64 (i:Nat)/\o.get 0=some (aR 0 [os,ts,us,is,no])/\1<=n/\AccI 1 v n o (wE os ts i)/\i<=ts.els.length) (fun i=>ts.els.length-i) 0
  ⟨_,_,_,_,.nils,rfl,aG,aG,eT,aG,Nat.le_refl _,.inl ⟨rfl,rfl⟩,Nat.zero_le _⟩ ?_
 rintro i _ ⟨t,n,low,o,v,rfl,B,F,G,k,V,m,O⟩;have C:=fX (show 0<n by omega)
 rcases Nat.lt_or_ge i ts.els.length with c | r
 ·have k1:(((i:Nat):Int)<((ts.els.length:Nat):Int))=True:=eq_true aD
  have A:IntKind.i64.wrap ((i:Int)+1)=((i+1:Nat):Int):=by rw [IntWalk.i64_in _ aD];rfl
  have w:wE os ts (i+1)=wE os ts i++[aQ (cR os.els (aZ ts i))]:=by simp [wE,List.range_succ]
  have S:∀ {a:AV},[AV.nils].set (0*1) a=[a]:=rfl
  have q:AccI 1 v (n+1) (o.set n (aR 0 [aQ (cR os.els (aZ ts i))])) _:=m.keep (Nat.le_succ n) fun id _ T=>Tr.get_set_ne _ _ aD
  obtain ⟨v',X,E,o',P,Q,Y,R,_⟩:=q.app (low:=low) (by_:=24) (List.all_eq_true.2 fun x f=>(uF h x f).1) (x:=aQ (cR os.els (aZ ts i))) cD aD (by rw [DF];omega);have N:=m.cell
  have u:CG os ts us is no [.agg [os,ts,us,is,no],.int .i64 (i:Nat)]=some (aQ (cR os.els (aZ ts i))):=by
   rw [CG,sg2_eq (b:=.int .i64 (i:Nat)) ⟨rfl,i,c,rfl⟩];rfl
  refine yA @B @F @G @k @C @gL @k1 @A @S @P @u d.lX @cD ?_;refine ⟨i+1,by show _-_<_-_;omega,_,_,_,_,v',rfl,aN @B,aG,aG,?_,aD,?_,c⟩
  ·rw [R 0 aD,Tr.get_set_ne _ _ aD];exact k
  ·rw [w];exact Q
 ·obtain rfl:i=ts.els.length:=Nat.le_antisymm O r
  refine ap7 @B @F @G @bG @k @C d.lX ?_
  exact m.frz (fun x f=>(uF h x f).1) fun x f=>(uF h x f).2
def vR (os:AV) (a b:List Nat):Bool:=a.any fun x=>decide (x∈b)&&GN os x
set_option maxHeartbeats 4000000 in
theorem RU (h:GW os ts us is no) {a b:List Nat} (ha:∀ x∈a,x<os.els.length) (G:a.length<=1000) (H:b.length<=1000):Abs.Returns Tryz.prog 87 [fS os ts us is no,aQ a,aQ b] (.bool (vR os a b)):=by
 have X:=h.g.und;obtain ⟨c0,c1,c2,c3,c4⟩:=h.g.cells;have l:=dU G;have I:=dU H;have aa:(aQ a).isCell=true:=cD;have ab:(aQ b).isCell=true:=cD
 have hq:∀ i:Nat,jK [aQ b,.int .i64 (i:Nat)]=some (.bool (decide (i∈b))):=fun i=>by
  rw [jK,sg2_eq (b:=.int .i64 (i:Nat)) ⟨⟨_,I,zO⟩,_,rfl⟩,I.els];rw [show (AV.int .i64 ((i:Nat):Int)).num=(i:Nat) from rfl,NM]
 obtain ⟨xs,B,F⟩:=h.g.os;have y:=B.els;refine aF (L:=[ent 86 jK]) (elist_cons qListed_ok.ent aE) aL (by kernel_rfl) Tryz.func87 Tryz.ntmps87 Tryz.results87 rfl rfl (aA X.und (aA (eR G).und (aA (eR H).und aC))) aI ?_;refine LB @c0 @c1 @c2 @c3 @c4 ?_
 refine aM (fun i e=>∃ t,e=⟨42,none,87,t,[],⟨1,0,Tr.leaf.set 0 (aR 0 [os,ts,us,is,no])⟩,.no⟩/\t.val 1=aQ a/\t.val 2=aQ b/\t.val 3=.ptr 0 0 0/\t.val 7=.int .i64 (i:Nat)/\i<=a.length/\vR os a b=((a.drop i).any fun x=>decide (x∈b)&&GN os x)) (fun i=>a.length-i) 0
  ⟨_,rfl,aG,aG,aG,eT,Nat.zero_le _,rfl⟩ ?_
 rintro i _ ⟨t,rfl,A,C,D,E,hi,f⟩;have r:(aP a).length=a.length:=aV
 rcases Nat.lt_or_ge i a.length with w | Q
 ·have R:=List.getElem?_eq_getElem w
  have T:=List.getElem_mem w;rw [List.drop_eq_getElem_cons w,List.any_cons]at f;generalize a[i]=x at *;have Z:=ha x T;rw [y]at Z;obtain ⟨ob,P,hm,S,_,v,_,ac⟩:=bI (k:=4) (fun x h=>tk_ob.len h) F (show xs.length<=9223372036854775807 by have:=B.2;omega) Z
  have U:GN os x=shB ob:=by rw [GN,y,List.getD_eq_getElem?_getD,S];rfl
  obtain ⟨k,c,d,e,rfl,⟨k,rfl⟩,⟨m,rfl⟩,_,_⟩:=P;have V:shB (.agg [.int .i64 k,.int .i64 m,d,e])=(decide (k=3)||(decide (k=4)||decide (k=6))):=rfl;rw [U,V]at f
  have u:=fun {q:IntKind} {d:Option AV}=>qQ (k:=1) (xs:=aP a) (n:=(i:Nat)) aD (cP R) rfl (q:=q) (d:=d)
  have o:=hq x;have k1:(((i:Nat):Int)<((a.length:Nat):Int))=True:=eq_true aD
  have J:IntKind.i64.wrap ((i:Int)+1)=((i+1:Nat):Int):=by rw [IntWalk.i64_in _ aD];rfl
  by_cases Y:x∈b
  ·rw [decide_eq_true Y]at o f
   rw [Bool.true_and]at f;by_cases M:k=3
   ·subst M
    exact aAq @A @C @D @E l.lX @r l.iX @u B.iX @v @o @k1 @f
   by_cases N:k=4
   ·subst N
    exact aAq @A @C @D @E l.lX @r l.iX @u B.iX @v @o @k1 @f
   by_cases O:k=6
   ·subst O
    exact aAq @A @C @D @E l.lX @r l.iX @u B.iX @v @o @k1 @f
   ·rw [decide_eq_false M,decide_eq_false N,decide_eq_false O]at f
    refine LD @A @C @D @E l.lX @r l.iX @u B.iX @v @o @k1 @J @M @N @O ?_;exact ⟨i+1,by show _-_<_-_;omega,_,rfl,aN @A,aN @C,aN @D,aG,w,f⟩
  ·rw [decide_eq_false Y]at o f
   rw [Bool.false_and,Bool.false_or]at f;refine yA @A @C @D @E l.lX @r l.iX @u B.iX @v @o @k1 @J ?_;exact ⟨i+1,by show _-_<_-_;omega,_,rfl,aN @A,aN @C,aN @D,aG,w,f⟩
 ·obtain rfl:i=a.length:=Nat.le_antisymm hi Q
  rw [List.drop_length,List.any_nil]at f;have k1:(((a.length:Nat):Int)<((a.length:Nat):Int))=False:=eq_false (Int.lt_irrefl _);exact RD @A @E l.lX @r @k1 @f
end
section
variable {os ts us is no:AV}
def mQ (os ts:AV) (i:Nat):List Nat:=cR os.els (aZ ts i)
theorem HO {a b:List Nat}:vR os a b=true↔∃ n,n∈a/\n∈b/\GN os n=true:=by
 simp only [vR,List.any_eq_true,Bool.and_eq_true,decide_eq_true_eq]
def DG (os ts:AV) (i:Nat):List Nat:=(List.range ts.els.length).filter fun j=>vR os (mQ os ts i) (mQ os ts j)
theorem mI {i j:Nat}:j∈DG os ts i↔j<ts.els.length/\vR os (mQ os ts i) (mQ os ts j)=true:=by
 rw [DG,List.mem_filter,List.mem_range]
theorem aEf {i j:Nat}:Abs.Way (DG os ts) i j↔Isle ts.els.length (mQ os ts) (GN os) i j:=by
 constructor
 ·intro h
  induction h with
  | refl _=>exact .refl _
  | step a _ b=>exact .step (mI.1 a).1 (HO.1 (mI.1 a).2) b
 ·intro h
  induction h with
  | refl _=>exact .refl _
  | step a c _ b=>exact .step (mI.2 ⟨a,HO.2 c⟩) b
theorem WN (b:ts.els.length<=120) {i:Nat} (a:i<ts.els.length):eM (gR os ts) i=DI ts.els.length (mQ os ts) (GN os) i:=by
 unfold eM gR ZN;rw [List.getD_eq_getElem?_getD,List.getElem?_map,List.getElem?_range aD];show (if i<ts.els.length then _ else _)=_;rw [if_pos a];rfl
theorem JJ (d:ts.els.length<=120) {i k:Nat} (a:i<ts.els.length) (b:k<ts.els.length):eM (gR os ts) i=eM (gR os ts) k↔Isle ts.els.length (mQ os ts) (GN os) k i:=by
 rw [WN d a,WN d b];obtain ⟨f,l,m⟩:=zP (R:=mQ os ts) (sh:=GN os) a;obtain ⟨c,o,q⟩:=zP (R:=mQ os ts) (sh:=GN os) b;constructor
 ·intro e
  rw [<-e]at c;exact c.trans (f.symm a)
 ·intro h
  exact Nat.le_antisymm (m _ o ((h.symm b).trans c)) (q _ l (h.trans f))
theorem aEg (h:GW os ts us is no) {k:Nat} (b:k<ts.els.length) {R:List Nat} (a:WLg (DG os ts) ts.els.length k R.length R):vS R ts.els.length=cE os ts k:=by
 refine List.filter_congr fun x c=>?_
 rw [decide_eq_decide,JJ (Nat.le_trans h.l h.ol) (List.mem_range.1 c) b,<-aEf];exact WLg.fin a
def sK (a:AV):List Nat:=a.els.map fun x=>x.num.toNat
theorem fR {l:List Nat} (h:l.length<=1000):sK (aQ l)=l:=by
 rw [sK,(dU h).els,aP,List.map_map]
 conv=>rhs;rw [<-List.map_id l]
 exact List.map_congr_left fun x _=>rfl
abbrev uG (os ts us is no:AV):List AV->Option AV:=sg3 (fun w a b=>w=fS os ts us is no/\∃ i j:Nat,a=aQ (mQ os ts i)/\b=aQ (mQ os ts j)) fun _ a b=>.bool (vR os (sK a) (sK b))
theorem oZ (h:GW os ts us is no) {i:Nat}:(mQ os ts i).length<=1000:=Nat.le_trans (qH _ _) (by have:=h.ol;omega)
theorem RV (h:GW os ts us is no):Abs.Ok Tryz.prog 87 (uG os ts us is no):=ok3 fun w a b ⟨c,i,j,d,e⟩=>by
 subst c;subst d;subst e;rw [fR (oZ h),fR (oZ h)];exact RU h (fun x f=>(bV.1 f).1) (oZ h) (oZ h)
theorem NL {l:List Nat}:(aQ l).cells.length=1:=by unfold aQ bJ;split<;>rfl
def hIs:cQ:=fun r=>if r=8 then ([17],[1000]) else ([],[])
theorem aPn:hIs 8=([17],[1000]):=rfl
theorem WO (h:GW os ts us is no):Sl (zM os ts) (wE os ts ts.els.length):=dX (by rw [DF];have:=h.l;have:=h.ol;omega)
theorem aEh (h:GW os ts us is no):UnderE 0 (zM os ts):=oM (WO h) fun x a=>(uF h x a).2
set_option maxHeartbeats 8000000 in
theorem aEi (h:GW os ts us is no) {k:Nat} (hk:k<ts.els.length):Abs.Returns Tryz.prog 39 [fS os ts us is no,zM os ts,.int .i64 (k:Nat)] (aQ (cE os ts k)):=by
 have az:=h.g.und;obtain ⟨c0,c1,c2,c3,c4⟩:=h.g.cells;have hm:ts.els.length<=120:=Nat.le_trans h.l h.ol;have A:=WO h
 have bh:(zM os ts).isCell=true:=by unfold zM;split<;>rfl
 have G:(wE os ts ts.els.length).length=ts.els.length:=DF;have s1:∀ {a:AV},[AV.int .i64 0].set (0*1) a=[a]:=rfl
 have ab:∀ i,i<ts.els.length->(wE os ts ts.els.length)[i]?=some (aQ (mQ os ts i)):=fun i hi=>by
  rw [wE,List.getElem?_map,List.getElem?_range hi];rfl
 refine bM (L:=[ent 87 (uG os ts us is no),dC 86 HN,dC 66 pB]) (elist_cons (RV h).ent (elist_cons aEd (elist_cons JO aE))) hIs (by kernel_rfl) Tryz.func39 Tryz.ntmps39 Tryz.results39 rfl rfl (aA az.und (aA (aEh h).und (aA aS aC))) ?_;refine XK @c0 @c1 @c2 @c3 @c4 @s1 ?_
 refine aM (fun j e=>∃ t n low o v R,e=⟨51,none,39,t,[],⟨n,low,o⟩,.no⟩/\t.val 1=zM os ts/\t.val 3=.ptr 0 0 0/\t.val 7=v/\t.val 8=.int .i64 (j:Nat)/\o.get 0=some (aR 0 [os,ts,us,is,no])/\1<=n/\AccI 1 v n o (aP R)/\WLg (DG os ts) ts.els.length k j R) (fun j=>ts.els.length-j) 0
  ⟨_,_,_,_,.sl 1 0 0 1 (.is 1),[k],rfl,aG,aG,aG,eT,qC,aD,.inr ⟨by simp [aP],1,0,.is 1,rfl,.inr rfl,Tr.get_set_same _ _ _,Nat.le_refl _,aD⟩,{nd:=by simp,lt:=fun x hx=>by obtain rfl:=List.mem_singleton.1 hx;exact ⟨hk,.refl _⟩,ro:=List.mem_singleton.2 rfl,jl:=Nat.zero_le _,cl:=fun i n hi=>(Nat.not_lt_zero _ hi).elim}⟩ ?_
 rintro j _ ⟨t,n,low,o,v,R,rfl,F,S,E,H,I,hn,Z,C⟩;have bg:=C.len;have ar:=C.jl;have c:=Z
 rcases Z with ⟨e,_⟩ | ⟨h0,bb,g2,c2,rfl,_,ap,ai,b⟩
 ·have:=C.ro
  rw [List.map_eq_nil_iff.1 e]at this;cases this
 rw [aV]at E c
 rcases Nat.lt_or_ge j R.length with P | aq
 ·have J:=List.getElem?_eq_getElem P
  have ak:=List.getElem_mem P;have T:=J;generalize R[j]=m at J ak;obtain ⟨av,aw⟩:=C.lt m ak;have k1:(((j:Nat):Int)<((R.length:Nat):Int))=True:=eq_true aD
  have ba:IntKind.i64.wrap ((j:Int)+1)=((j+1:Nat):Int):=by rw [IntWalk.i64_in _ aD];rfl
  refine CL @E @H @k1 ?_
  refine aM (fun q e=>∃ t n low o v f,e=⟨51,none,39,t,[],⟨n,low,o⟩,.no⟩/\t.val 1=zM os ts/\t.val 3=.ptr 0 0 0/\t.val 7=v/\t.val 8=.int .i64 (j:Nat)/\t.val 9=.int .i64 (q:Nat)/\o.get 0=some (aR 0 [os,ts,us,is,no])/\1<=n/\AccI 1 v n o (aP f)/\WLg (DG os ts) ts.els.length k j f/\R <+: f/\(∀ y,y<q->vR os (mQ os ts m) (mQ os ts y)=true->y∈f)/\q<=ts.els.length) (fun q=>ts.els.length-q) 0
   ⟨_,_,_,_,_,R,rfl,aN @F,aN @S,aN @E,aN @H,eT,I,hn,c,C,List.prefix_rfl,fun y Y=>(Nat.not_lt_zero _ Y).elim,Nat.zero_le _⟩ ?_
  clear F S E H I hn c C ap b ai;rintro q _ ⟨t,n,low,o,v,f,rfl,F,S,E,H,t9,I,hn,Z,C,u,Q,hq⟩;have f0:=dQ (show 0<n by omega);have hu:=AccI.und Z;have bc:=C.len;have c:=Z
  rcases Z with ⟨e,_⟩ | ⟨bf,an,g3,aa,rfl,_,ad,bd,aj⟩
  ·have:=C.ro
   rw [List.map_eq_nil_iff.1 e]at this;cases this
  rw [aV]at E c hu;have f3:=dQ aj
  rcases Nat.lt_or_ge q ts.els.length with b | ae
  ·have B:f[j]?=some m:=by
    have:=List.prefix_iff_getElem?.1 u j P;rw [T.symm.trans J]at this;exact this
   have bi:j<f.length:=(List.getElem?_eq_some_iff.1 B).1;have ah:=cP B;have k2:(((j:Nat):Int)<((f.length:Nat):Int))=True:=eq_true aD;have k3:(0<=((j:Nat):Int))=True:=eq_true aD;have k4:(((q:Nat):Int)<((ts.els.length:Nat):Int))=True:=eq_true aD
   have X:IntKind.i64.wrap ((q:Int)+1)=((q+1:Nat):Int):=by rw [IntWalk.i64_in _ aD];rfl
   have au:=aEe (RowN.acc (low:=low) c) aD q [dC 66 pB];have r:orcL [ent 87 (uG os ts us is no),dC 86 HN,dC 66 pB] 86 [.sl an g3 0 f.length aa,.int .i64 (q:Nat)] ⟨n,low,o⟩=_:=au
   have D:uG os ts us is no [fS os ts us is no,aQ (mQ os ts m),aQ (mQ os ts q)]=some (.bool (vR os (mQ os ts m) (mQ os ts q))):=by
    rw [uG,kI ⟨rfl,m,q,rfl,rfl⟩,fR (oZ h),fR (oZ h)]
   have af:=fun {q:IntKind} {d:Option AV}=>qQ (k:=1) (xs:=wE os ts ts.els.length) (n:=(m:Nat)) aD (ab m av) NL (q:=q) (d:=d)
   have ag:=fun {q':IntKind} {d:Option AV}=>qQ (k:=1) (xs:=wE os ts ts.els.length) (n:=(q:Nat)) aD (ab q b) NL (q:=q') (d:=d)
   have V:kM n ⟨n,low,o⟩ ⟨n,low,o⟩:=fun _ _=>rfl
   by_cases O:q∈f
   ·rw [decide_eq_true O]at r
    refine AF @aPn @F @E @t9 @k4 A.lX @G @r @hu @X @V ?_;refine ⟨q+1,by show _-_<_-_;omega,_,_,_,_,_,f,rfl,aN @F,aN @S,aN @E,aN @H,aG,I,hn,c,C,u,fun y Y U=>?_,b⟩
    rcases Nat.lt_or_ge y q with w | w
    ·exact Q y w U
    ·obtain rfl:y=q:=by omega
     exact O
   ·rw [decide_eq_false O]at r
    cases M:vR os (mQ os ts m) (mQ os ts q) with
    | false=>
      rw [M]at D;simp +contextual +decide (maxSteps:=1000000) only [↓ wP,wQ,tf,Nat.reduceAdd,wS,aPn,F,S,E,H,t9,I,f0,f3,k2,k3,k4,ad,ah,A.len,A.idx,G,af,ag,r,D,hu,V,X,cD,Int.toNat_natCast,Nat.mul_one,Nat.zero_add];refine ⟨q+1,by show _-_<_-_;omega,_,_,_,_,_,f,rfl,aN @F,aN @S,aN @E,aN @H,aG,I,hn,c,C,u,fun y Y U=>?_,b⟩
      rcases Nat.lt_or_ge y q with w | w
      ·exact Q y w U
      ·obtain rfl:y=q:=by omega
       rw [M]at U;cases U
    | true=>
      rw [M]at D
      have ao:AccI 1 (.sl an g3 0 f.length aa) (n+1) (o.set n (aR 0 [.int .i64 (q:Nat)])) _:=c.keep (Nat.le_succ n) fun id _ h2=>Tr.get_set_ne _ _ aD
      obtain ⟨v',n',be,o',q1,q2,q3,q4,_⟩:=ao.app (low:=low) (by_:=8) fT (x:=.int .i64 (q:Nat)) rfl aD (by rw [aV];omega);simp +contextual +decide (maxSteps:=1000000) only [↓ wP,wQ,tf,Nat.reduceAdd,wS,aPn,F,S,E,H,t9,I,f0,f3,gL,k2,k3,k4,ad,ah,A.len,A.idx,G,af,ag,r,D,hu,V,X,s1,q1,cD,Int.toNat_natCast,Nat.mul_one,Nat.zero_add]
      have ax:q<ts.els.length/\Abs.Way (DG os ts) k q:=⟨b,aw.trans (.step (mI.2 ⟨b,M⟩) (.refl _))⟩
      have ay:nO f q=f++[q]:=if_neg O;refine ⟨q+1,by show _-_<_-_;omega,_,_,_,_,v',nO f q,rfl,aN @F,aN @S,aG,aN @H,aG,?_,aD,?_,C.put ax,u.trans putN_pre,fun y Y U=>?_,b⟩
      ·rw [q4 0 aD,Tr.get_set_ne _ _ aD];exact I
      ·rw [ay,mR];exact q2
      ·rcases Nat.lt_or_ge y q with w | w
       ·exact eQ.2 (.inl (Q y w U))
       ·exact eQ.2 (.inr aD)
  ·obtain rfl:q=ts.els.length:=Nat.le_antisymm hq ae
   have k4:(((ts.els.length:Nat):Int)<((ts.els.length:Nat):Int))=False:=eq_false (Int.lt_irrefl _);refine ap7 @F @H @t9 @k4 A.lX @G @ba ?_
   have B:f[j]?=some m:=by
    have:=List.prefix_iff_getElem?.1 u j P;rw [T.symm.trans J]at this;exact this
   exact ⟨j+1,by show _-_<_-_;omega,_,_,_,_,_,f,rfl,aN @F,aN @S,aN @E,aG,I,hn,c,C.step B fun y Y=>Q y (mI.1 Y).1 (mI.1 Y).2⟩
 ·obtain rfl:j=R.length:=Nat.le_antisymm ar aq
  have ac:=aEg h hk C;have al:=JN (RowN.acc (low:=low) c) aD (N:=ts.els.length) aD [];rw [ac]at al;have am:orcL [ent 87 (uG os ts us is no),dC 86 HN,dC 66 pB] 66 [.sl bb g2 0 R.length c2,.int .i64 (ts.els.length:Nat)] ⟨n,low,o⟩=_:=al;have k1:(((R.length:Nat):Int)<((R.length:Nat):Int))=False:=eq_false aD;refine ap7 @F @E @H @k1 A.lX @G @am ?_;exact .und _ (eR (Nat.le_trans (pA os ts k) aD)).und
end
section
variable {os ts us is no:AV}
abbrev JK (os ts us is no:AV):List AV->Option AV:=sg3 (fun w a t=>w=fS os ts us is no/\a=zM os ts/\∃ k:Nat,k<ts.els.length/\t=.int .i64 (k:Nat)) fun _ _ t=>aQ (cE os ts t.num.toNat)
theorem ZC (h:GW os ts us is no):Abs.Ok Tryz.prog 39 (JK os ts us is no):=ok3 fun w a t ⟨b,c,k,e,d⟩=>by
 subst b;subst c;subst d;exact aEi h e
theorem RX {l:List Nat} (h:l.length<=1000):fZ (aQ l):=⟨_,dU h,zO⟩
end
section
variable {p os ts us is no:AV}
def xG (ts:AV) (n:Int):Bool:=decide (0<=n)&&decide (n<((ts.els.length:Nat):Int))
theorem aEj (b:WG os ts us is no) (n:Int):Abs.Returns Tryz.prog 13 [fS os ts us is no,.int .i64 n] (.bool (xG ts n)):=by
 obtain ⟨c0,d,f,h,k⟩:=b.cells
 have c:Sl ts ts.els:=by
  obtain ⟨xs,l,_⟩:=b.ts;rw [l.els];exact l
 refine aF (L:=[]) aE aL (by kernel_rfl) Tryz.func13 Tryz.ntmps13 Tryz.results13 rfl rfl (aA b.und.und (aA aS aC)) aI ?_;by_cases a:0<=n
 ·have e:xG ts n=decide (n<((ts.els.length:Nat):Int)):=by rw [xG,decide_eq_true a,Bool.true_and]
  exact az8 @c0 @d @f @h @k c.lX @a @e
 ·have e:xG ts n=false:=by rw [xG,decide_eq_false a,Bool.false_and]
  exact OQ @c0 @d @f @h @k @a @e
def ZD:List AV->Int->Int
 | [],z=>z
 | o::l,z=>ZD l (IntKind.i64.wrap (IntKind.i64.wrap (z+1)+(((o.fld 3).els.length:Nat):Int)))
def JL (p os ts us is:AV):Bool:=if (dP (p.fld 0).els (p.fld 1).els (p.fld 3).els&&iG os.els ts.els us.els is.els)=true then decide (400<ZD os.els 0) else true
theorem ZE (O:gC p) (C:WG os ts us is no):Abs.Returns Tryz.prog 6 [p,fS os ts us is no] (.bool (JL p os ts us is)):=by
 have P:=(cH p O).1;obtain ⟨c0,D,E,F,G⟩:=C.cells;have o:KA [p]=some (.bool (dP (p.fld 0).els (p.fld 1).els (p.fld 3).els)):=cI O;have B:KC [.agg [os,ts,us,is,no]]=some (.bool (iG os.els ts.els us.els is.els)):=cI C.wd;refine aF (L:=[ent 25 KA,ent 26 KC]) (elist_cons smallPV_ok.ent (elist_cons smallWV_ok.ent aE)) aL (by kernel_rfl) Tryz.func6 Tryz.ntmps6 Tryz.results6 rfl rfl (aA P.und (aA C.und.und aC)) aI ?_
 have f:∃ ns fs mm cs,p=.agg [ns,fs,mm,cs]/\ns.isCell=true/\fs.isCell=true/\mm.isCell=true/\cs.isCell=true:=by
  obtain ⟨ns,fs,mm,cs,rfl,a1,a2,a3,a4⟩:=O;exact ⟨ns,fs,mm,cs,rfl,(dZ _ a1).2,(aT _ a2).2,(tu_int _ a3).2,(eA _ a4).2⟩
 unfold JL
 cases k1:dP (p.fld 0).els (p.fld 1).els (p.fld 3).els with
 | false=>
   rw [k1]at o;obtain ⟨ns,fs,mm,cs,rfl,v,w,y,A⟩:=f;exact GR @c0 @D @E @F @G @v @w @y @A @o
 | true=>
 rw [k1]at o
 cases k2:iG os.els ts.els us.els is.els with
 | false=>
   rw [k2]at B;obtain ⟨ns,fs,mm,cs,rfl,v,w,y,A⟩:=f;exact LE @c0 @D @E @F @G @v @w @y @A @o @B
 | true=>
 rw [k2]at B;obtain ⟨xs,u,q⟩:=C.os;rw [Bool.and_self,if_pos rfl];obtain ⟨ns,fs,mm,cs,rfl,v,w,y,A⟩:=f;refine AF @c0 @D @E @F @G @v @w @y @A @o @B ?_
 refine aM (fun i e=>∃ t z,e=⟨34,none,6,t,[],⟨2,0,(Tr.leaf.set 0 (aR 0 [ns,fs,mm,cs])).set 1 (aR 0 [os,ts,us,is,no])⟩,.no⟩/\t.val 3=.ptr 1 0 0/\t.val 5=.int .i64 z/\t.val 6=.int .i64 (i:Nat)/\i<=xs.length/\ZD os.els 0=ZD (xs.drop i) z) (fun i=>xs.length-i) 0
  ⟨_,0,rfl,aG,aG,eT,Nat.zero_le _,by rw [u.els];rfl⟩ ?_
 rintro i _ ⟨t,z,rfl,Q,R,S,X,f⟩
 rcases Nat.lt_or_ge i xs.length with r | M
 ·obtain ⟨x,H,hm,V,U,N,Y,J⟩:=bI (k:=4) (fun x h=>tk_ob.len h) q u.2 r
  rw [U,ZD]at f;obtain ⟨a,b,c,d,rfl,⟨k,rfl⟩,⟨m,rfl⟩,Z,T⟩:=H;obtain ⟨ys,l,_⟩:=T;rw [show (AV.agg [.int .i64 k,.int .i64 m,c,d]).fld 3=d from rfl,l.els]at f;have I:=l.cell;refine wW @Q @R @S u.lX u.iX @N @J @Y l.lX @I ?_;exact ⟨i+1,by show _-_<_-_;omega,_,_,rfl,aN @Q,aG,aG,r,f⟩
 ·obtain rfl:i=xs.length:=Nat.le_antisymm X M
  rw [List.drop_length,ZD]at f;have k1:(((xs.length:Nat):Int)<((xs.length:Nat):Int))=False:=eq_false (Int.lt_irrefl _);exact RD @Q @R @S u.lX @k1 @f
theorem aEk (a:gC p) (c:SmP p):Abs.Returns Tryz.prog 37 [p] (.bool (zX p)):=by
 have b:DS [p]=some (.bool (zX p)):=cI ⟨a,c⟩;refine aF (L:=[ent 85 DS]) (elist_cons rformedV_ok.ent aE) aL (by kernel_rfl) Tryz.func37 Tryz.ntmps37 Tryz.results37 rfl rfl (aA (cH p a).1.und aC) aI ?_;obtain ⟨ns,fs,mm,cs,rfl,a1,a2,a3,a4⟩:=a;have d:=(dZ _ a1).2;have e:=(aT _ a2).2;have f:=(tu_int _ a3).2;have h:=(eA _ a4).2;exact ND @d @e @f @h @b
theorem aEl (a:gC p) (u:SmP p) (c:WG os ts us is no):Abs.Returns Tryz.prog 10 [p,fS os ts us is no] (.bool (kZ p&&vM p (fS os ts us is no))):=by
 rw [OC a];have r:xW [p,.agg [os,ts,us,is,no]]=some (.bool (WW p (fS os ts us is no))):=sg2_eq ⟨a,c.wd⟩;obtain ⟨c0,d,e,f,h⟩:=c.cells;have b:=aEk a u;refine aF (L:=[jG 37 [p] (.bool (zX p)),ent 19 xW]) (elist_cons (bX b) (elist_cons rWorld_ok.ent aE)) aL (by kernel_rfl) Tryz.func10 Tryz.ntmps10 Tryz.results10 rfl rfl (aA (cH p a).1.und (aA c.und.und aC)) aI ?_;clear b;obtain ⟨ns,fs,mm,cs,rfl,a1,a2,a3,a4⟩:=a;have l:=(dZ _ a1).2;have m:=(aT _ a2).2;have o:=(tu_int _ a3).2;have q:=(eA _ a4).2;generalize WW (.agg [ns,fs,mm,cs]) (fS os ts us is no)=B at *
 cases k:zX (.agg [ns,fs,mm,cs]) with
 | false=>
   rw [Bool.false_and];exact GR @c0 @d @e @f @h @l @m @o @q @fU
 | true=>
   rw [Bool.true_and];exact vN @c0 @d @e @f @h @l @m @o @q @fU @yF @r
end
section
variable {p os ts us is no:AV}
theorem aSw (b:WG os ts us is no) (c:iG os.els ts.els us.els is.els=true) (a:(kZ p&&vM p (fS os ts us is no))=true):GW os ts us is no:=by
 rw [Bool.and_eq_true]at a;exact aSy b c a.2
theorem aPo (a:dP (p.fld 0).els (p.fld 1).els (p.fld 3).els=true):SmP p:=by
 simp only [dP,Bool.and_eq_true,decide_eq_true_eq]at a;show _<=1000;omega
end
end
end Go.Proofs.YtdipddlhenoglaaGreat
