/-
  Reach, by the reference.
-/
import Derived.Test.YtdipddlhenoglaaGreatZn
set_option linter.unusedVariables false
set_option linter.unusedSimpArgs false
namespace Go.Proofs.YtdipddlhenoglaaGreat
open Go.Abs Go Go.Abs.TryzF
noncomputable section
set_option maxRecDepth 10000
structure WLg (g:Nat->List Nat) (N:Nat) (r:Nat) (j:Nat) (R:List Nat):Prop where
 nd:R.Nodup
 lt:∀ x∈R,x<N/\Abs.Way g r x
 ro:r∈R
 jl:j<=R.length
 cl:∀ i n,i<j->R[i]?=some n->∀ y∈g n,y∈R
abbrev WL (A:List AV) (r:Nat) (j:Nat) (R:List Nat):Prop:=WLg (kK A) A.length r j R
theorem eV {R:List Nat} {x y:Nat}:y∈mN R x↔y∈R∨y=x:=by
 unfold mN;split
 ·exact ⟨.inl,fun h=>h.elim id fun e=>e ▸ ‹_›⟩
 ·simp
theorem putN_pre {R:List Nat} {x:Nat}:R <+: mN R x:=by
 unfold mN;split
 ·exact List.prefix_rfl
 ·exact List.prefix_append ..
theorem KF {R:List Nat} {x:Nat} (h:R.Nodup):(mN R x).Nodup:=by
 unfold mN;split
 ·exact h
 ·rename_i f
  refine List.nodup_append.2 ⟨h,by simp,fun a c b d=>?_⟩;obtain rfl:=List.mem_singleton.1 d
  exact fun e=>f (e ▸ c)
theorem WLg.put {g:Nat->List Nat} {N r j:Nat} {R:List Nat} (h:WLg g N r j R) {x:Nat} (f:x<N/\Abs.Way g r x):WLg g N r j (mN R x) where
 nd:=KF h.nd
 lt:=fun y b=>by
  rcases eV.1 b with b | rfl
  ·exact h.lt y b
  ·exact f
 ro:=eV.2 (.inl h.ro)
 jl:=Nat.le_trans h.jl putN_pre.length_le
 cl:=fun i n d e y b=>by
  have a:i<R.length:=Nat.lt_of_lt_of_le d h.jl;have c:=List.prefix_iff_getElem?.1 (putN_pre (R:=R) (x:=x)) i a;rw [e]at c;exact eV.2 (.inl (h.cl i n d (by rw [List.getElem?_eq_getElem a];exact c.symm) y b))
theorem WLg.len {g:Nat->List Nat} {N r j:Nat} {R:List Nat} (h:WLg g N r j R):R.length<=N:=by
 have:=lD (cE R) (cE (List.range N)) (List.pairwise_map.2 (h.nd.imp fun h e=>h aC)) fun x a=>by
  obtain ⟨y,b,rfl⟩:=List.mem_map.1 a;exact List.mem_map.2 ⟨y,List.mem_range.2 (h.lt y b).1,rfl⟩
 simpa [cE] using this
theorem WLg.fin {g:Nat->List Nat} {N r:Nat} {R:List Nat} (h:WLg g N r R.length R) {x:Nat}:x∈R↔Abs.Way g r x:=by
 constructor
 ·exact fun d=>(h.lt x d).2
 ·intro c
  refine XI (g:=g) (t:=[r]) (fun y a=>?_) (fun y a z e=>?_) ⟨r,List.mem_singleton.2 rfl,c⟩
  ·obtain rfl:=List.mem_singleton.1 a;exact h.ro
  ·obtain ⟨i,b,rfl⟩:=List.mem_iff_getElem.1 a
   exact h.cl i _ b (List.getElem?_eq_getElem b) z e
theorem WL.fin {A:List AV} {r:Nat} {R:List Nat} (h:WL A r R.length R):kB R A.length=dK A r:=by
 refine List.filter_congr fun x _=>?_
 rw [decide_eq_decide];exact WLg.fin h
theorem WLg.step {g:Nat->List Nat} {N r j n:Nat} {R:List Nat} (h:WLg g N r j R) (c:R[j]?=some n) (f:∀ y∈g n,y∈R):WLg g N r (j+1) R where
 nd:=h.nd
 lt:=h.lt
 ro:=h.ro
 jl:=(List.getElem?_eq_some_iff.1 c).1
 cl:=fun i m k b y d=>by
  rcases Nat.lt_or_ge i j with a | e
  ·exact h.cl i m a b y d
  ·obtain rfl:i=j:=by omega
   rw [c]at b;cases b;exact f y d
theorem DP {l:List AV} {i:Nat} {v:AV} (h:l[i]?=some v):kC (l.take (i+1))=kC (l.take i)++(if (v.fld 0).num=5 then [(v.fld 1).num.toNat] else []):=by
 rw [List.take_add_one,h,kC,List.filterMap_append]
 congr 1
 by_cases h:(v.fld 0).num=5<;>simp [h]
theorem AccI.uniq {lo n:Nat} {v:AV} {o:Tr AObj} {R f:List AV} (h:AccI lo v n o R) (k:AccI lo v n o f):R=f:=by
 rcases h with ⟨rfl,rfl⟩ | ⟨r,id,g,c,rfl,_,q,_⟩
 ·rcases k with ⟨rfl,b⟩ | ⟨d,e,m,l,b,_,a,_⟩
  ·rfl
  ·cases b
 ·rcases k with ⟨rfl,b⟩ | ⟨d,e,m,l,b,_,a,_⟩
  ·cases b
  ·obtain ⟨rfl,rfl,_⟩:=AV.sl.inj b
   rw [q]at a;exact (oI (Option.some.inj a)).2
theorem CK {lo:Nat} {s:Sto} {v:AV} {l:List Nat} (h:AccI lo v s.n s.o (aU l)) (b:lo<=s.n) (q:l.length<=900) (x:Nat):
 ∃ v' S,(AccI lo v' S.n S.o (aU (mN l x))/\s.n<=S.n/\(∀ id,id<lo->S.o.get id=s.o.get id)/\(∀ m,m<=lo->m<=s.low->m<=S.low))/\∀ L,orcL (bG 65 (CD lo)::L) 65 [v,.int .i64 (x:Nat)] s=some (.ret v' (some S)):=by
 obtain ⟨res,c,d⟩:=dX (f:=65) (IH h b q x);obtain ⟨v1,r,u,a,e,⟨v',S,rfl,k⟩,_⟩:=c;simp only [List.cons.injEq,AV.int.injEq,true_and,and_true]at a;obtain ⟨rfl,a⟩:=a
 obtain rfl:x=u:=by omega
 obtain rfl:l=r:=uM (AccI.uniq h e);exact ⟨v',S,k,d⟩
theorem XA {lo:Nat}:bM Tryz.prog (bG 65 (CD lo)):=eO fun _ _ _ h=>by obtain ⟨_,_,_,_,_,_,h⟩:=h;exact h
abbrev nI:List AV->Option AV:=vJ vO fun o=>dR (bS o)
theorem qvalV_ok:Abs.Ok Tryz.prog 88 nI:=AH fun o h=>SW h
theorem AccI.und {lo n:Nat} {v:AV} {o:Tr AObj} {R:List AV} (h:AccI lo v n o R):UnderE n v:=by
 rcases h with ⟨_,rfl⟩ | ⟨_,id,g,c,rfl,_,_,_,h⟩
 ·exact ⟨1,rfl⟩
 ·exact ⟨1,by simpa [AV.under] using h⟩
section
variable {os ts us is no:AV}
def hRc (n:Nat):dG:=fun r=>if r=5 then ([],[1000,vP n,10]) else if r=9 then ([8],[]) else ([],[])
theorem aSy {n:Nat}:hRc n 5=([],[1000,vP n,10]):=rfl
theorem aSz {n:Nat}:hRc n 9=([8],[]):=rfl
def aLb (os ts us is no:AV) (args:List AV) (s:Sto) (res:CRes):Prop:=∃ id g c k,args=[dP os ts us is no,.sl id g 0 1 c]/\s.get id=some (aQ g [.int .i64 ((k:Nat):Int)])/\res=.ret (aW (dK os.els (bR ts k))) none/\bO Tryz.prog 41 args s res
set_option maxHeartbeats 4000000 in
theorem ZW (h:GW os ts us is no) {s:Sto} {id g k0:Nat} {c:ACap} (hg:s.get id=some (aQ g [.int .i64 (k0:Nat)])) (hk:k0<ts.els.length):∃ res,aLb os ts us is no [dP os ts us is no,.sl id g 0 1 c] s res:=by
 refine ⟨_,id,g,c,k0,rfl,hg,rfl,?_⟩;obtain ⟨n0,bq,o0⟩:=s;have al:id<n0:=Sto.get_lt hg;rw [Sto.get_mk al]at hg;refine zV (L:=[ent 88 nI,bG 65 (CD (n0+1)),bG 66 mO]) (elist_cons qvalV_ok.ent (elist_cons XA (elist_cons CO aE))) (hRc (n0+1)) (by kernel_rfl) Tryz.func41 Tryz.ntmps41 Tryz.results41 rfl rfl ?_;obtain ⟨c0,c1,c2,c3,c4⟩:=h.g.cells
 have bl:Sl ts ts.els:=by
  obtain ⟨xs,O,_⟩:=h.g.ts;rw [O.els];exact O
 have bk:Sl os os.els:=by
  obtain ⟨xs,O,_⟩:=h.g.os;rw [O.els];exact O
 obtain ⟨q1,q2⟩:=h.task hk;have f0:=dO al;refine EW @c0 @c1 @c2 @c3 @c4 ?_
 refine aL (fun i e=>∃ t n low o v,e=⟨65,none,41,t,[],⟨n,low,o⟩,.no⟩/\t.val 1=.sl id g 0 1 c/\t.val 2=.ptr n0 0 0/\t.val 5=v/\t.val 6=.int .i64 (i:Nat)/\o.get n0=some (aQ 0 [os,ts,us,is,no])/\o.get id=some (aQ g [.int .i64 (k0:Nat)])/\n0+1<=n/\n0<=low/\AccI (n0+1) v n o (aU (if i=0 then [] else [bR ts k0]))/\i<=1) (fun i=>1-i) 0
  ⟨_,_,_,_,.nils,rfl,aG,aG,aG,eA,aG,ag2 @f0 @hg,Nat.le_refl _,Nat.le_refl _,.inl ⟨rfl,rfl⟩,Nat.zero_le _⟩ ?_
 rintro i _ ⟨t,n,low,o,v,rfl,t1,C,D,t6,w,g1,A,f,u,hi⟩;have T:=eM (show n0<n by omega);have f2:=eM (show id<n by omega)
 have am:id<n0+1:=by omega
 rcases Nat.lt_or_ge i 1 with F | U
 ·obtain rfl:i=0:=by omega
  obtain ⟨v',⟨n1,Q,o1⟩,⟨p1,p2,p3,p4⟩,p5⟩:=CK (s:=⟨n,low,o⟩) (lo:=n0+1) u A (by simp) (bR ts k0);have Y:orcL [ent 88 nI,bG 65 (CD (n0+1)),bG 66 mO] 65 [v,.int .i64 (bR ts k0:Nat)] ⟨n,low,o⟩=_:=p5 [bG 66 mO]
  have V:=fun {q:IntKind} {d:Option AV}=>rB (k:=1) (xs:=ts.els) (n:=(k0:Nat)) aC q2 rfl (q:=q) (d:=d)
  have P:[AV.int IntKind.i64 (k0:Nat)][0+(((0:Nat):Int)).toNat*1]?=some (.int .i64 (k0:Nat)):=rfl;have hu:=AccI.und u;have ax:n<=n1:=p2;have ks:pE (CH n (n0+1)) ⟨n,low,o⟩ ⟨n1,Q,o1⟩:=pN (Nat.min_le_right _ _) A p2 p3;simp +contextual +decide (maxSteps:=1000000) only [↓ wP,wQ,tf,Nat.reduceAdd,wS,aSy,IT,aFt,nL,P,t1,C,D,t6,w,g1,T,f2,eP,bl.idx,V,Y,am,hu,ax,ks];exact ⟨1,by decide,_,_,_,_,v',rfl,aM @t1,aM @C,aG,eA,(p3 n0 (Nat.lt_succ_self _)).trans w,(p3 id aC).trans g1,Nat.le_trans A p2,p4 n0 (Nat.le_succ _) f,p1,Nat.le_refl _⟩
 ·obtain rfl:i=1:=by omega
  rw [if_neg (by decide)]at u;refine JA @t1 @t6 ?_
  have r:WL os.els (bR ts k0) 0 [bR ts k0]:=
   {nd:=by simp,lt:=fun x hx=>by obtain rfl:=List.mem_singleton.1 hx;exact ⟨q1,.refl _⟩,ro:=List.mem_singleton.2 rfl,jl:=Nat.zero_le _,cl:=fun i n hi=>(Nat.not_lt_zero _ hi).elim}
  refine aL (fun j e=>∃ t n low o v R,e=⟨65,none,41,t,[],⟨n,low,o⟩,.no⟩/\t.val 2=.ptr n0 0 0/\t.val 5=v/\t.val 7=.int .i64 (j:Nat)/\o.get n0=some (aQ 0 [os,ts,us,is,no])/\n0+1<=n/\n0<=low/\AccI (n0+1) v n o (aU R)/\WL os.els (bR ts k0) j R) (fun j=>os.els.length-j) 0
   ⟨_,_,_,_,v,_,rfl,aM @C,aM @D,eA,w,A,f,u,r⟩ ?_
  clear t1 C D t6 w g1 A f u T f2 hi U r;rintro j _ ⟨t,n,low,o,v,R,rfl,C,D,S,w,A,f,u,r⟩;have T:=eM (show n0<n by omega);have br:=r.len;have bt:=h.ol;have be:=r.jl;have J:=u;have hu:=AccI.und u
  rcases u with ⟨e,_⟩ | ⟨h0,bn,g2,c2,rfl,_,ag,ao,l⟩
  ·have:=r.ro
   rw [List.map_eq_nil_iff.1 e]at this;cases this
  rw [aS]at D J;have f3:=eM l
  rcases Nat.lt_or_ge j R.length with F | U
  ·have ab:=List.getElem?_eq_getElem F
   have bf:=List.getElem_mem F;generalize R[j]=m at *;obtain ⟨ap,bg⟩:=r.lt m bf;obtain ⟨xs,O,ad⟩:=h.g.os;have E:=O.els;have ah:=h.a.good;have X:=h.a.refs;have bp:kK os.els m=kC (bS (os.els.getD m .top)):=rfl;rw [E]at ap ah;obtain ⟨x,aa,hm,bb,_,V,hw,bs⟩:=bB (k:=4) (fun x h=>tk_ob.len h) ad (show xs.length<=9223372036854775807 by have:=O.2;omega) ap
   have bh:=fun {d:Option AV}=>tk_ob.pf aa (d:=d)
   have ak:=ah x hm;have bi:nI [x]=some (dR (bS x)):=cR ak;have bd:=cP ab;have k1:(((j:Nat):Int)<((R.length:Nat):Int))=True:=eq_true aC;have k2:(0<=((j:Nat):Int))=True:=eq_true aC
   have bm:IntKind.i64.wrap ((j:Int)+1)=((j+1:Nat):Int):=by rw [IntWalk.i64_in _ aC];rfl
   refine HB @aSz @C @D @S @w @T @f3 @ag @bd @k1 @k2 O.iX @V @bh @bi @Int.toNat_natCast @Nat.mul_one @Nat.zero_add ?_;have bu:(bS x).length<=100000:=ak.2.2;have az:∀ v∈bS x,tJ v:=iC (nK aa);have H:Sl (dR (bS x)) (bS x):=lM aC;have bj:=X x (by rw [E];exact hm)
   have aj:kK os.els m=kC (bS x):=by rw [kK,E,List.getD_eq_getElem?_getD,bb];rfl
   generalize bS x=Z at *
   refine aL (fun k e=>∃ t n low o v I,e=⟨65,none,41,t,[],⟨n,low,o⟩,.no⟩/\t.val 2=.ptr n0 0 0/\t.val 5=v/\t.val 7=.int .i64 (j:Nat)/\t.val 8=dR Z/\t.val 9=.int .i64 (k:Nat)/\o.get n0=some (aQ 0 [os,ts,us,is,no])/\n0+1<=n/\n0<=low/\AccI (n0+1) v n o (aU I)/\WL os.els (bR ts k0) j I/\R <+: I/\(∀ y∈kC (Z.take k),y∈I)/\k<=Z.length) (fun k=>Z.length-k) 0
    ⟨_,_,_,_,_,R,rfl,aM @C,aM @D,aM @S,aG,eA,w,A,f,J,r,List.prefix_rfl,fun y hy=>(nomatch hy),Nat.zero_le _⟩ ?_
   clear C D S w A f J r T f3 ag l hu ao;rintro k _ ⟨t,n,low,o,v,I,rfl,C,D,S,t8,t9,w,A,f,u,r,G,M,hk⟩;have T:=eM (show n0<n by omega);have hu:=AccI.und u;have bo:=r.len
   rcases Nat.lt_or_ge k Z.length with l | ai
   ·obtain ⟨y,ay,aq,bc,_,an,aw,ae⟩:=bB (k:=2) (fun x h=>tk_val.len h) az (show Z.length<=9223372036854775807 by omega) l
    have B:=DP bc;have ar:=bj y aq;obtain ⟨a,b,rfl,⟨ka,rfl⟩,⟨kb,rfl⟩⟩:=ay;rw [show ((AV.agg [.int .i64 ka,.int .i64 kb]).fld 0).num=ka from rfl,show ((AV.agg [.int .i64 ka,.int .i64 kb]).fld 1).num=kb from rfl]at B ar;by_cases h5:ka=5
    ·obtain ⟨r1,r2⟩:=ar h5
     subst h5;rw [if_pos rfl]at B
     obtain ⟨b,rfl⟩:∃ b:Nat,kb=(b:Nat):=⟨kb.toNat,aC⟩
     rw [Int.toNat_natCast]at B
     have hb:b∈kK os.els m:=by
      rw [aj];exact List.mem_filterMap.2 ⟨_,aq,by simp [AV.fld,AV.num]⟩
     have ba:b<os.els.length/\Abs.Way (kK os.els) (bR ts k0) b:=⟨h.a.lt b hb,bg.trans (.step hb (.refl _))⟩
     obtain ⟨v',⟨n1,Q,o1⟩,⟨p1,p2,p3,p4⟩,p5⟩:=CK (s:=⟨n,low,o⟩) (lo:=n0+1) u A aC b;have Y:orcL [ent 88 nI,bG 65 (CD (n0+1)),bG 66 mO] 65 [v,.int .i64 (b:Nat)] ⟨n,low,o⟩=_:=p5 [bG 66 mO];have ax:n<=n1:=p2;refine UO @D @t8 @t9 H.lX H.iX @an @aw @ae @Y ?_;refine ⟨k+1,by show _-_<_-_;omega,_,_,_,_,v',mN I b,rfl,aM @C,aG,aM @S,aM @t8,aG,(p3 n0 (Nat.lt_succ_self _)).trans w,Nat.le_trans A p2,p4 n0 (Nat.le_succ _) f,p1,r.put ba,G.trans putN_pre,?_,l⟩;intro z P;rw [B]at P
     rcases List.mem_append.1 P with P | P
     ·exact eV.2 (.inl (M z P))
     ·exact eV.2 (.inr (List.mem_singleton.1 P))
    ·rw [if_neg h5,List.append_nil]at B
     refine JB @t8 @t9 H.lX H.iX @an @aw @ae @h5 ?_;exact ⟨k+1,by show _-_<_-_;omega,_,_,_,_,v,I,rfl,aM @C,aM @D,aM @S,aM @t8,aG,w,A,f,u,r,G,by rw [B];exact M,l⟩
   ·obtain rfl:k=Z.length:=Nat.le_antisymm hk ai
    rw [List.take_length]at M;refine PJ @S @t8 @t9 @bH H.lX @bm ?_
    have ac:I[j]?=some m:=by
     have:=List.prefix_iff_getElem?.1 G j F;rw [<-List.getElem?_eq_getElem F,ab]at this;exact this
    exact ⟨j+1,by show _-_<_-_;omega,_,_,_,_,v,I,rfl,aM @C,aM @D,aG,w,A,f,u,r.step ac (by rw [aj];exact M)⟩
  ·obtain rfl:j=R.length:=Nat.le_antisymm be U
   have af:=WL.fin r;have au:=CN (RowN.acc (low:=low) J) aC (N:=os.els.length) aC [];rw [af]at au;have av:orcL [ent 88 nI,bG 65 (CD (n0+1)),bG 66 mO] 66 [.sl bn g2 0 R.length c2,.int .i64 (os.els.length:Nat)] ⟨n,low,o⟩=_:=au;have k1:(((R.length:Nat):Int)<((R.length:Nat):Int))=False:=eq_false aC;refine JB @C @D @S @k1 @w @T bk.lX @av ?_;refine ⟨rfl,_,rfl,?_⟩;refine zI ?_;exact ⟨f,.und _ ((eD (by have:=qT os.els (bR ts k0);omega)).mono (Nat.zero_le _)).und⟩
theorem aEt (h:GW os ts us is no) {s:Sto} {id g k:Nat} {c:ACap} (d:s.get id=some (aQ g [.int .i64 (k:Nat)])) (q:k<ts.els.length) (L:List kG):orcL (bG 41 (aLb os ts us is no)::L) 41 [dP os ts us is no,.sl id g 0 1 c] s=some (.ret (aW (dK os.els (bR ts k))) none):=by
 obtain ⟨res,e,l⟩:=dX (f:=41) (ZW h (c:=c) d q);obtain ⟨r,w,v,u,a,b,m,_⟩:=e;simp only [List.cons.injEq,AV.sl.injEq,true_and,and_true]at a;obtain ⟨rfl,rfl,rfl⟩:=a;rw [d]at b;have o:=(oI (Option.some.inj b)).2;simp only [List.cons.injEq,AV.int.injEq,true_and,and_true]at o
 obtain rfl:k=u:=by omega
 rw [<-m];exact l L
theorem aEu:bM Tryz.prog (bG 41 (aLb os ts us is no)):=eO fun _ _ _ h=>by obtain ⟨_,_,_,_,_,_,_,h⟩:=h;exact h
theorem ZX (h:GW os ts us is no) {k:Nat} (m:k<ts.els.length):Abs.Returns Tryz.prog 15 [dP os ts us is no,.int .i64 (k:Nat)] (aW (dK os.els (bR ts k))):=by
 have b:=h.g.und;obtain ⟨c0,d,e,f,l⟩:=h.g.cells;refine bU (L:=[bG 41 (aLb os ts us is no)]) (elist_cons aEu aE) aN (by kernel_rfl) Tryz.func15 Tryz.ntmps15 Tryz.results15 rfl rfl (aA b.und (aA aV aD)) ?_;have q:∀ {a:AV},[AV.int .i64 0].set (0*1) a=[a]:=rfl;have o:=aEt h (s:=⟨2,0,(Tr.leaf.set 0 (aQ 0 [os,ts,us,is,no])).set 1 (aQ 0 [.int .i64 (k:Nat)])⟩) (id:=1) (g:=0) (c:=.is 1) ((Sto.get_mk aC).trans (Tr.get_set_same _ _ _)) m [];refine UN @c0 @d @e @f @l @q @o ?_;exact .und _ (eD (by have:=qT os.els (bR ts k);have:=h.ol;omega)).und
abbrev CM (os ts us is no:AV):List AV->Option AV:=wX (fun w t=>w=dP os ts us is no/\∃ k:Nat,k<ts.els.length/\t=.int .i64 (k:Nat)) fun _ t=>aW (dK os.els (bR ts t.num.toNat))
theorem SS (h:GW os ts us is no):Abs.Ok Tryz.prog 15 (CM os ts us is no):=ok2 fun w t ⟨e,k,a,e'⟩=>by
 subst e;subst e';exact ZX h a
end
theorem OD {P:Program} {f:FuncId} {args:List AV} {s:Sto} {v:AV} (h:bO P f args s (.ret v none)):bO P f args s (.ret v (some s)):=by
 obtain ⟨d,fn,e,k⟩:=h;refine ⟨d,fn,e,fun σ w A kd stk m a l b c=>?_⟩;obtain ⟨τ,V,w',fr,o,q,r,u⟩:=k σ w A kd stk m a l b c;exact ⟨τ,V,w',fr,o,q,QStp.stp r a,u⟩
def ID (args:List AV) (s:Sto) (res:CRes):Prop:=∃ b,SV args s (.ret b none)/\res=.ret b (some s)
theorem aEv:bM Tryz.prog (bG 86 ID):=eO fun _ _ _ h=>by
 obtain ⟨b,h,rfl⟩:=h;obtain ⟨_,_,_,_,_,_,h⟩:=h;exact OD h
theorem aEw {s:Sto} {v:AV} {l:List Nat} (h:RowN s v l) (m:l.length<=1000) (x:Nat) (L:List kG):orcL (bG 86 ID::L) 86 [v,.int .i64 (x:Nat)] s=some (.ret (.bool (decide (x∈l))) (some s)):=by
 obtain ⟨res,a⟩:=IG h m x;have e:=KJ h a;subst e;obtain ⟨res,⟨b,d,rfl⟩,k⟩:=dX (f:=86) (R:=ID) ⟨_,_,a,rfl⟩;have c:=KJ h d;cases c;exact k L
section
variable {os ts us is no:AV}
theorem fZ {l:List Nat} (h:l.length<=1000):Sl (aW l) (aU l):=by rw [pP];exact OJ h
def wD (os ts:AV) (n:Nat):List AV:=(List.range n).map fun i=>aW (dK os.els (bR ts i))
def zL (os ts:AV):AV:=if (wD os ts ts.els.length).length=0 then .nils else .fz (wD os ts ts.els.length) false
theorem uJ (h:GW os ts us is no) {n:Nat}:∀ x∈wD os ts n,x.isCell=true/\UnderE 0 x:=fun x a=>by
 obtain ⟨i,_,rfl⟩:=List.mem_map.1 a;exact ⟨cY,eD (Nat.le_trans (qT _ _) (by have:=h.ol;omega))⟩
theorem DQ {os ts:AV} {n:Nat}:(wD os ts n).length=n:=by simp [wD]
set_option maxHeartbeats 4000000 in
theorem aLc (h:GW os ts us is no):Abs.Returns Tryz.prog 38 [dP os ts us is no] (zL os ts):=by
 have y:=h.g.und;obtain ⟨c0,H,I,J,M⟩:=h.g.cells;have U:ts.els.length<=120:=Nat.le_trans h.l h.ol
 have d:Sl ts ts.els:=by
  obtain ⟨xs,D,_⟩:=h.g.ts;rw [D.els];exact D
 refine bU (L:=[ent 15 (CM os ts us is no)]) (elist_cons (SS h).ent aE) aN (by kernel_rfl) Tryz.func38 Tryz.ntmps38 Tryz.results38 rfl rfl (aA y.und aD) ?_;refine EW @c0 @H @I @J @M ?_
 refine aL (fun i e=>∃ t n low o v,e=⟨19,none,38,t,[],⟨n,low,o⟩,.no⟩/\t.val 1=.ptr 0 0 0/\t.val 3=v/\t.val 4=.int .i64 (i:Nat)/\o.get 0=some (aQ 0 [os,ts,us,is,no])/\1<=n/\AccI 1 v n o (wD os ts i)/\i<=ts.els.length) (fun i=>ts.els.length-i) 0
  ⟨_,_,_,_,.nils,rfl,aG,aG,eA,aG,Nat.le_refl _,.inl ⟨rfl,rfl⟩,Nat.zero_le _⟩ ?_
 rintro i _ ⟨t,n,low,o,v,rfl,B,F,G,k,V,m,O⟩;have C:=dO (show 0<n by omega)
 rcases Nat.lt_or_ge i ts.els.length with c | r
 ·have k1:(((i:Nat):Int)<((ts.els.length:Nat):Int))=True:=eq_true aC
  have A:IntKind.i64.wrap ((i:Int)+1)=((i+1:Nat):Int):=by rw [IntWalk.i64_in _ aC];rfl
  have w:wD os ts (i+1)=wD os ts i++[aW (dK os.els (bR ts i))]:=by simp [wD,List.range_succ]
  have S:∀ {a:AV},[AV.nils].set (0*1) a=[a]:=rfl
  have q:AccI 1 v (n+1) (o.set n (aQ 0 [aW (dK os.els (bR ts i))])) _:=m.keep (Nat.le_succ n) fun id _ T=>Tr.get_set_ne _ _ aC
  obtain ⟨v',X,E,o',P,Q,Y,R,_⟩:=q.app (low:=low) (by_:=24) (List.all_eq_true.2 fun x f=>(uJ h x f).1) (x:=aW (dK os.els (bR ts i))) cY aC (by rw [DQ];omega);have N:=m.cell
  have u:CM os ts us is no [.agg [os,ts,us,is,no],.int .i64 (i:Nat)]=some (aW (dK os.els (bR ts i))):=by
   rw [CM,sg2_eq (b:=.int .i64 (i:Nat)) ⟨rfl,i,c,rfl⟩];rfl
  refine tI @B @F @G @k @C @eP @k1 @A @S @P @u d.lX @cY ?_;refine ⟨i+1,by show _-_<_-_;omega,_,_,_,_,v',rfl,aM @B,aG,aG,?_,aC,?_,c⟩
  ·rw [R 0 aC,Tr.get_set_ne _ _ aC];exact k
  ·rw [w];exact Q
 ·obtain rfl:i=ts.els.length:=Nat.le_antisymm O r
  refine UN @B @F @G @bH @k @C d.lX ?_
  exact m.frz (fun x f=>(uJ h x f).1) fun x f=>(uJ h x f).2
def vM (os:AV) (a b:List Nat):Bool:=a.any fun x=>decide (x∈b)&&IO os x
set_option maxHeartbeats 4000000 in
theorem ST (h:GW os ts us is no) {a b:List Nat} (ha:∀ x∈a,x<os.els.length) (G:a.length<=1000) (H:b.length<=1000):Abs.Returns Tryz.prog 87 [dP os ts us is no,aW a,aW b] (.bool (vM os a b)):=by
 have X:=h.g.und;obtain ⟨c0,c1,c2,c3,c4⟩:=h.g.cells;have l:=fZ G;have I:=fZ H
 have hq:∀ i:Nat,jL [aW b,.int .i64 (i:Nat)]=some (.bool (decide (i∈b))):=fun i=>by
  rw [jL,sg2_eq (b:=.int .i64 (i:Nat)) ⟨⟨_,I,zN⟩,_,rfl⟩,I.els];rw [show (AV.int .i64 ((i:Nat):Int)).num=(i:Nat) from rfl,OF]
 obtain ⟨xs,B,F⟩:=h.g.os;have y:=B.els;refine aF (L:=[ent 86 jL]) (elist_cons qListed_ok.ent aE) aN (by kernel_rfl) Tryz.func87 Tryz.ntmps87 Tryz.results87 rfl rfl (aA X.und (aA (eD G).und (aA (eD H).und aD))) aJ ?_;refine EW @c0 @c1 @c2 @c3 @c4 ?_
 refine aL (fun i e=>∃ t,e=⟨42,none,87,t,[],⟨1,0,Tr.leaf.set 0 (aQ 0 [os,ts,us,is,no])⟩,.no⟩/\t.val 1=aW a/\t.val 2=aW b/\t.val 3=.ptr 0 0 0/\t.val 7=.int .i64 (i:Nat)/\i<=a.length/\vM os a b=((a.drop i).any fun x=>decide (x∈b)&&IO os x)) (fun i=>a.length-i) 0
  ⟨_,rfl,aG,aG,aG,eA,Nat.zero_le _,rfl⟩ ?_
 rintro i _ ⟨t,rfl,A,C,D,E,hi,f⟩;have r:(aU a).length=a.length:=aS
 rcases Nat.lt_or_ge i a.length with w | Q
 ·have R:=List.getElem?_eq_getElem w
  have T:=List.getElem_mem w;rw [List.drop_eq_getElem_cons w,List.any_cons]at f;generalize a[i]=x at *;have Z:=ha x T;rw [y]at Z;obtain ⟨ob,P,hm,S,_,v,_,aa⟩:=bB (k:=4) (fun x h=>tk_ob.len h) F (show xs.length<=9223372036854775807 by have:=B.2;omega) Z
  have U:IO os x=shB ob:=by rw [IO,y,List.getD_eq_getElem?_getD,S];rfl
  obtain ⟨k,c,d,e,rfl,⟨k,rfl⟩,⟨m,rfl⟩,_,_⟩:=P;have V:shB (.agg [.int .i64 k,.int .i64 m,d,e])=(decide (k=3)||(decide (k=4)||decide (k=6))):=rfl;rw [U,V]at f
  have u:=fun {q:IntKind} {d:Option AV}=>rB (k:=1) (xs:=aU a) (n:=(i:Nat)) aC (cP R) rfl (q:=q) (d:=d)
  have o:=hq x;have k1:(((i:Nat):Int)<((a.length:Nat):Int))=True:=eq_true aC
  have J:IntKind.i64.wrap ((i:Int)+1)=((i+1:Nat):Int):=by rw [IntWalk.i64_in _ aC];rfl
  by_cases Y:x∈b
  ·rw [decide_eq_true Y]at o f
   rw [Bool.true_and]at f;by_cases M:k=3
   ·subst M
    exact aHb @A @C @D @E l.lX @r l.iX @u B.iX @v @o @k1 @f
   by_cases N:k=4
   ·subst N
    exact aHb @A @C @D @E l.lX @r l.iX @u B.iX @v @o @k1 @f
   by_cases O:k=6
   ·subst O
    exact aHb @A @C @D @E l.lX @r l.iX @u B.iX @v @o @k1 @f
   ·rw [decide_eq_false M,decide_eq_false N,decide_eq_false O]at f
    refine AC @A @C @D @E l.lX @r l.iX @u B.iX @v @o @k1 @J @M @N @O ?_;exact ⟨i+1,by show _-_<_-_;omega,_,rfl,aM @A,aM @C,aM @D,aG,w,f⟩
  ·rw [decide_eq_false Y]at o f
   rw [Bool.false_and,Bool.false_or]at f;refine tI @A @C @D @E l.lX @r l.iX @u B.iX @v @o @k1 @J ?_;exact ⟨i+1,by show _-_<_-_;omega,_,rfl,aM @A,aM @C,aM @D,aG,w,f⟩
 ·obtain rfl:i=a.length:=Nat.le_antisymm hi Q
  rw [List.drop_length,List.any_nil]at f;have k1:(((a.length:Nat):Int)<((a.length:Nat):Int))=False:=eq_false (Int.lt_irrefl _);exact az6 @A @E l.lX @r @k1 @f
end
section
variable {os ts us is no:AV}
def oZ (os ts:AV) (i:Nat):List Nat:=dK os.els (bR ts i)
theorem IE {a b:List Nat}:vM os a b=true↔∃ n,n∈a/\n∈b/\IO os n=true:=by
 simp only [vM,List.any_eq_true,Bool.and_eq_true,decide_eq_true_eq]
def DR (os ts:AV) (i:Nat):List Nat:=(List.range ts.els.length).filter fun j=>vM os (oZ os ts i) (oZ os ts j)
theorem mZ {i j:Nat}:j∈DR os ts i↔j<ts.els.length/\vM os (oZ os ts i) (oZ os ts j)=true:=by
 rw [DR,List.mem_filter,List.mem_range]
theorem aEx {i j:Nat}:Abs.Way (DR os ts) i j↔Isle ts.els.length (oZ os ts) (IO os) i j:=by
 constructor
 ·intro h
  induction h with
  | refl _=>exact .refl _
  | step a _ b=>exact .step (mZ.1 a).1 (IE.1 (mZ.1 a).2) b
 ·intro h
  induction h with
  | refl _=>exact .refl _
  | step a c _ b=>exact .step (mZ.2 ⟨a,IE.2 c⟩) b
theorem XB (b:ts.els.length<=120) {i:Nat} (a:i<ts.els.length):eN (gW os ts) i=DT ts.els.length (oZ os ts) (IO os) i:=by
 unfold eN gW aAf;rw [List.getD_eq_getElem?_getD,List.getElem?_map,List.getElem?_range aC];show (if i<ts.els.length then _ else _)=_;rw [if_pos a];rfl
theorem aLd (d:ts.els.length<=120) {i k:Nat} (a:i<ts.els.length) (b:k<ts.els.length):eN (gW os ts) i=eN (gW os ts) k↔Isle ts.els.length (oZ os ts) (IO os) k i:=by
 rw [XB d a,XB d b];obtain ⟨f,l,m⟩:=zR (R:=oZ os ts) (sh:=IO os) a;obtain ⟨c,o,q⟩:=zR (R:=oZ os ts) (sh:=IO os) b;constructor
 ·intro e
  rw [<-e]at c;exact c.trans (f.symm a)
 ·intro h
  exact Nat.le_antisymm (m _ o ((h.symm b).trans c)) (q _ l (h.trans f))
theorem aEy (h:GW os ts us is no) {k:Nat} (b:k<ts.els.length) {R:List Nat} (a:WLg (DR os ts) ts.els.length k R.length R):kB R ts.els.length=dC os ts k:=by
 refine List.filter_congr fun x c=>?_
 rw [decide_eq_decide,aLd (Nat.le_trans h.l h.ol) (List.mem_range.1 c) b,<-aEx];exact WLg.fin a
def zM (a:AV):List Nat:=a.els.map fun x=>x.num.toNat
theorem lI {l:List Nat} (h:l.length<=1000):zM (aW l)=l:=by
 rw [zM,(fZ h).els,aU,List.map_map]
 conv=>rhs;rw [<-List.map_id l]
 exact List.map_congr_left fun x _=>rfl
abbrev uK (os ts us is no:AV):List AV->Option AV:=sg3 (fun w a b=>w=dP os ts us is no/\∃ i j:Nat,a=aW (oZ os ts i)/\b=aW (oZ os ts j)) fun _ a b=>.bool (vM os (zM a) (zM b))
theorem pM (h:GW os ts us is no) {i:Nat}:(oZ os ts i).length<=1000:=Nat.le_trans (qT _ _) (by have:=h.ol;omega)
theorem SU (h:GW os ts us is no):Abs.Ok Tryz.prog 87 (uK os ts us is no):=ok3 fun w a b ⟨c,i,j,d,e⟩=>by
 subst c;subst d;subst e;rw [lI (pM h),lI (pM h)];exact ST h (fun x f=>(eJ.1 f).1) (pM h) (pM h)
theorem OE {l:List Nat}:(aW l).cells.length=1:=by unfold aW dR;split<;>rfl
def hIs:dG:=fun r=>if r=8 then ([17],[1000]) else ([],[])
theorem aPt:hIs 8=([17],[1000]):=rfl
theorem XC (h:GW os ts us is no):Sl (zL os ts) (wD os ts ts.els.length):=lM (by rw [DQ];have:=h.l;have:=h.ol;omega)
theorem aEz (h:GW os ts us is no):UnderE 0 (zL os ts):=pD (XC h) fun x a=>(uJ h x a).2
set_option maxHeartbeats 8000000 in
theorem aFa (h:GW os ts us is no) {k:Nat} (hk:k<ts.els.length):Abs.Returns Tryz.prog 39 [dP os ts us is no,zL os ts,.int .i64 (k:Nat)] (aW (dC os ts k)):=by
 have az:=h.g.und;obtain ⟨c0,c1,c2,c3,c4⟩:=h.g.cells;have hm:ts.els.length<=120:=Nat.le_trans h.l h.ol;have A:=XC h
 have bh:(zL os ts).isCell=true:=by unfold zL;split<;>rfl
 have G:(wD os ts ts.els.length).length=ts.els.length:=DQ;have s1:∀ {a:AV},[AV.int .i64 0].set (0*1) a=[a]:=rfl
 have ab:∀ i,i<ts.els.length->(wD os ts ts.els.length)[i]?=some (aW (oZ os ts i)):=fun i hi=>by
  rw [wD,List.getElem?_map,List.getElem?_range hi];rfl
 refine bU (L:=[ent 87 (uK os ts us is no),bG 86 ID,bG 66 mO]) (elist_cons (SU h).ent (elist_cons aEv (elist_cons CO aE))) hIs (by kernel_rfl) Tryz.func39 Tryz.ntmps39 Tryz.results39 rfl rfl (aA az.und (aA (aEz h).und (aA aV aD))) ?_;refine PJ @c0 @c1 @c2 @c3 @c4 @s1 ?_
 refine aL (fun j e=>∃ t n low o v R,e=⟨51,none,39,t,[],⟨n,low,o⟩,.no⟩/\t.val 1=zL os ts/\t.val 3=.ptr 0 0 0/\t.val 7=v/\t.val 8=.int .i64 (j:Nat)/\o.get 0=some (aQ 0 [os,ts,us,is,no])/\1<=n/\AccI 1 v n o (aU R)/\WLg (DR os ts) ts.els.length k j R) (fun j=>ts.els.length-j) 0
  ⟨_,_,_,_,.sl 1 0 0 1 (.is 1),[k],rfl,aG,aG,aG,eA,qO,aC,.inr ⟨by simp [aU],1,0,.is 1,rfl,.inr rfl,Tr.get_set_same _ _ _,Nat.le_refl _,aC⟩,{nd:=by simp,lt:=fun x hx=>by obtain rfl:=List.mem_singleton.1 hx;exact ⟨hk,.refl _⟩,ro:=List.mem_singleton.2 rfl,jl:=Nat.zero_le _,cl:=fun i n hi=>(Nat.not_lt_zero _ hi).elim}⟩ ?_
 rintro j _ ⟨t,n,low,o,v,R,rfl,F,S,E,H,I,hn,Z,C⟩;have bg:=C.len;have ar:=C.jl;have c:=Z
 rcases Z with ⟨e,_⟩ | ⟨h0,bb,g2,c2,rfl,_,ap,ai,b⟩
 ·have:=C.ro
  rw [List.map_eq_nil_iff.1 e]at this;cases this
 rw [aS]at E c
 rcases Nat.lt_or_ge j R.length with P | aq
 ·have J:=List.getElem?_eq_getElem P
  have ak:=List.getElem_mem P;have T:=J;generalize R[j]=m at J ak;obtain ⟨av,aw⟩:=C.lt m ak;have k1:(((j:Nat):Int)<((R.length:Nat):Int))=True:=eq_true aC
  have ba:IntKind.i64.wrap ((j:Int)+1)=((j+1:Nat):Int):=by rw [IntWalk.i64_in _ aC];rfl
  refine GU @E @H @k1 ?_
  refine aL (fun q e=>∃ t n low o v f,e=⟨51,none,39,t,[],⟨n,low,o⟩,.no⟩/\t.val 1=zL os ts/\t.val 3=.ptr 0 0 0/\t.val 7=v/\t.val 8=.int .i64 (j:Nat)/\t.val 9=.int .i64 (q:Nat)/\o.get 0=some (aQ 0 [os,ts,us,is,no])/\1<=n/\AccI 1 v n o (aU f)/\WLg (DR os ts) ts.els.length k j f/\R <+: f/\(∀ y,y<q->vM os (oZ os ts m) (oZ os ts y)=true->y∈f)/\q<=ts.els.length) (fun q=>ts.els.length-q) 0
   ⟨_,_,_,_,_,R,rfl,aM @F,aM @S,aM @E,aM @H,eA,I,hn,c,C,List.prefix_rfl,fun y Y=>(Nat.not_lt_zero _ Y).elim,Nat.zero_le _⟩ ?_
  clear F S E H I hn c C ap b ai;rintro q _ ⟨t,n,low,o,v,f,rfl,F,S,E,H,t9,I,hn,Z,C,u,Q,hq⟩;have f0:=eM (show 0<n by omega);have hu:=AccI.und Z;have bc:=C.len;have c:=Z
  rcases Z with ⟨e,_⟩ | ⟨bf,an,g3,aa,rfl,_,ad,bd,aj⟩
  ·have:=C.ro
   rw [List.map_eq_nil_iff.1 e]at this;cases this
  rw [aS]at E c hu;have f3:=eM aj
  rcases Nat.lt_or_ge q ts.els.length with b | ae
  ·have B:f[j]?=some m:=by
    have:=List.prefix_iff_getElem?.1 u j P;rw [T.symm.trans J]at this;exact this
   have bi:j<f.length:=(List.getElem?_eq_some_iff.1 B).1;have ah:=cP B;have k2:(((j:Nat):Int)<((f.length:Nat):Int))=True:=eq_true aC;have k3:(0<=((j:Nat):Int))=True:=eq_true aC;have k4:(((q:Nat):Int)<((ts.els.length:Nat):Int))=True:=eq_true aC
   have X:IntKind.i64.wrap ((q:Int)+1)=((q+1:Nat):Int):=by rw [IntWalk.i64_in _ aC];rfl
   have au:=aEw (RowN.acc (low:=low) c) aC q [bG 66 mO];have r:orcL [ent 87 (uK os ts us is no),bG 86 ID,bG 66 mO] 86 [.sl an g3 0 f.length aa,.int .i64 (q:Nat)] ⟨n,low,o⟩=_:=au
   have D:uK os ts us is no [dP os ts us is no,aW (oZ os ts m),aW (oZ os ts q)]=some (.bool (vM os (oZ os ts m) (oZ os ts q))):=by
    rw [uK,kP ⟨rfl,m,q,rfl,rfl⟩,lI (pM h),lI (pM h)]
   have af:=fun {q:IntKind} {d:Option AV}=>rB (k:=1) (xs:=wD os ts ts.els.length) (n:=(m:Nat)) aC (ab m av) OE (q:=q) (d:=d)
   have ag:=fun {q':IntKind} {d:Option AV}=>rB (k:=1) (xs:=wD os ts ts.els.length) (n:=(q:Nat)) aC (ab q b) OE (q:=q') (d:=d)
   have V:pE n ⟨n,low,o⟩ ⟨n,low,o⟩:=fun _ _=>rfl
   by_cases O:q∈f
   ·rw [decide_eq_true O]at r
    refine xY @aPt @F @E @t9 @k4 A.lX @G @r @hu @X @V ?_;refine ⟨q+1,by show _-_<_-_;omega,_,_,_,_,_,f,rfl,aM @F,aM @S,aM @E,aM @H,aG,I,hn,c,C,u,fun y Y U=>?_,b⟩
    rcases Nat.lt_or_ge y q with w | w
    ·exact Q y w U
    ·obtain rfl:y=q:=by omega
     exact O
   ·rw [decide_eq_false O]at r
    cases M:vM os (oZ os ts m) (oZ os ts q) with
    | false=>
      rw [M]at D;simp +contextual +decide (maxSteps:=1000000) only [↓ wP,wQ,tf,Nat.reduceAdd,wS,aPt,F,S,E,H,t9,I,f0,f3,k2,k3,k4,ad,ah,A.len,A.idx,G,af,ag,r,D,hu,V,X,cY,Int.toNat_natCast,Nat.mul_one,Nat.zero_add];refine ⟨q+1,by show _-_<_-_;omega,_,_,_,_,_,f,rfl,aM @F,aM @S,aM @E,aM @H,aG,I,hn,c,C,u,fun y Y U=>?_,b⟩
      rcases Nat.lt_or_ge y q with w | w
      ·exact Q y w U
      ·obtain rfl:y=q:=by omega
       rw [M]at U;cases U
    | true=>
      rw [M]at D
      have ao:AccI 1 (.sl an g3 0 f.length aa) (n+1) (o.set n (aQ 0 [.int .i64 (q:Nat)])) _:=c.keep (Nat.le_succ n) fun id _ h2=>Tr.get_set_ne _ _ aC
      obtain ⟨v',n',be,o',q1,q2,q3,q4,_⟩:=ao.app (low:=low) (by_:=8) dU (x:=.int .i64 (q:Nat)) rfl aC (by rw [aS];omega);simp +contextual +decide (maxSteps:=1000000) only [↓ wP,wQ,tf,Nat.reduceAdd,wS,aPt,F,S,E,H,t9,I,f0,f3,eP,k2,k3,k4,ad,ah,A.len,A.idx,G,af,ag,r,D,hu,V,X,s1,q1,cY,Int.toNat_natCast,Nat.mul_one,Nat.zero_add]
      have ax:q<ts.els.length/\Abs.Way (DR os ts) k q:=⟨b,aw.trans (.step (mZ.2 ⟨b,M⟩) (.refl _))⟩
      have ay:mN f q=f++[q]:=if_neg O;refine ⟨q+1,by show _-_<_-_;omega,_,_,_,_,v',mN f q,rfl,aM @F,aM @S,aG,aM @H,aG,?_,aC,?_,C.put ax,u.trans putN_pre,fun y Y U=>?_,b⟩
      ·rw [q4 0 aC,Tr.get_set_ne _ _ aC];exact I
      ·rw [ay,gI];exact q2
      ·rcases Nat.lt_or_ge y q with w | w
       ·exact eV.2 (.inl (Q y w U))
       ·exact eV.2 (.inr aC)
  ·obtain rfl:q=ts.els.length:=Nat.le_antisymm hq ae
   have k4:(((ts.els.length:Nat):Int)<((ts.els.length:Nat):Int))=False:=eq_false (Int.lt_irrefl _);refine UN @F @H @t9 @k4 A.lX @G @ba ?_
   have B:f[j]?=some m:=by
    have:=List.prefix_iff_getElem?.1 u j P;rw [T.symm.trans J]at this;exact this
   exact ⟨j+1,by show _-_<_-_;omega,_,_,_,_,_,f,rfl,aM @F,aM @S,aM @E,aG,I,hn,c,C.step B fun y Y=>Q y (mZ.1 Y).1 (mZ.1 Y).2⟩
 ·obtain rfl:j=R.length:=Nat.le_antisymm ar aq
  have ac:=aEy h hk C;have al:=CN (RowN.acc (low:=low) c) aC (N:=ts.els.length) aC [];rw [ac]at al;have am:orcL [ent 87 (uK os ts us is no),bG 86 ID,bG 66 mO] 66 [.sl bb g2 0 R.length c2,.int .i64 (ts.els.length:Nat)] ⟨n,low,o⟩=_:=al;have k1:(((R.length:Nat):Int)<((R.length:Nat):Int))=False:=eq_false aC;refine UN @F @E @H @k1 A.lX @G @am ?_;exact .und _ (eD (Nat.le_trans (uL os ts k) aC)).und
end
section
variable {os ts us is no:AV}
abbrev KG (os ts us is no:AV):List AV->Option AV:=sg3 (fun w a t=>w=dP os ts us is no/\a=zL os ts/\∃ k:Nat,k<ts.els.length/\t=.int .i64 (k:Nat)) fun _ _ t=>aW (dC os ts t.num.toNat)
theorem ZY (h:GW os ts us is no):Abs.Ok Tryz.prog 39 (KG os ts us is no):=ok3 fun w a t ⟨b,c,k,e,d⟩=>by
 subst b;subst c;subst d;exact aFa h e
theorem qQ {l:List Nat} (h:l.length<=1000):iD (aW l):=⟨_,fZ h,zN⟩
theorem qNums_ok:Abs.Ok Tryz.prog 14 mP:=ok2 fun a b ⟨c,d⟩=>by
 have e:mP [a,b]=some (.bool (sE a.els b.els)):=sg2_eq ⟨c,d⟩;refine aF (L:=[ent 40 mP]) (elist_cons rsame5_ok.ent aE) aN (by kernel_rfl) Tryz.func14 Tryz.ntmps14 Tryz.results14 rfl rfl (aA (aT _ c).1.und (aA (aT _ d).1.und aD)) aJ ?_;exact sK @e
end
section
variable {p os ts us is no:AV}
def xJ (ts:AV) (n:Int):Bool:=decide (0<=n)&&decide (n<((ts.els.length:Nat):Int))
theorem aFb (b:WG os ts us is no) (n:Int):Abs.Returns Tryz.prog 13 [dP os ts us is no,.int .i64 n] (.bool (xJ ts n)):=by
 obtain ⟨c0,d,f,h,k⟩:=b.cells
 have c:Sl ts ts.els:=by
  obtain ⟨xs,l,_⟩:=b.ts;rw [l.els];exact l
 refine aF (L:=[]) aE aN (by kernel_rfl) Tryz.func13 Tryz.ntmps13 Tryz.results13 rfl rfl (aA b.und.und (aA aV aD)) aJ ?_;by_cases a:0<=n
 ·have e:xJ ts n=decide (n<((ts.els.length:Nat):Int)):=by rw [xJ,decide_eq_true a,Bool.true_and]
  exact az8 @c0 @d @f @h @k c.lX @a @e
 ·have e:xJ ts n=false:=by rw [xJ,decide_eq_false a,Bool.false_and]
  exact XX @c0 @d @f @h @k @a @e
def ZZ:List AV->Int->Int
 | [],z=>z
 | o::l,z=>ZZ l (IntKind.i64.wrap (IntKind.i64.wrap (z+1)+(((o.fld 3).els.length:Nat):Int)))
def KH (p os ts us is:AV):Bool:=if (dY (p.fld 0).els (p.fld 1).els (p.fld 3).els&&jH os.els ts.els us.els is.els)=true then decide (400<ZZ os.els 0) else true
theorem aAa (O:dD p) (C:WG os ts us is no):Abs.Returns Tryz.prog 6 [p,dP os ts us is no] (.bool (KH p os ts us is)):=by
 have P:=(cL p O).1;obtain ⟨c0,D,E,F,G⟩:=C.cells;have o:KU [p]=some (.bool (dY (p.fld 0).els (p.fld 1).els (p.fld 3).els)):=cR O;have B:KV [.agg [os,ts,us,is,no]]=some (.bool (jH os.els ts.els us.els is.els)):=cR C.wd;refine aF (L:=[ent 25 KU,ent 26 KV]) (elist_cons smallPV_ok.ent (elist_cons smallWV_ok.ent aE)) aN (by kernel_rfl) Tryz.func6 Tryz.ntmps6 Tryz.results6 rfl rfl (aA P.und (aA C.und.und aD)) aJ ?_
 have f:∃ ns fs mm cs,p=.agg [ns,fs,mm,cs]/\ns.isCell=true/\fs.isCell=true/\mm.isCell=true/\cs.isCell=true:=by
  obtain ⟨ns,fs,mm,cs,rfl,a1,a2,a3,a4⟩:=O;exact ⟨ns,fs,mm,cs,rfl,(bP _ a1).2,(aT _ a2).2,(tu_int _ a3).2,(cJ _ a4).2⟩
 unfold KH
 cases k1:dY (p.fld 0).els (p.fld 1).els (p.fld 3).els with
 | false=>
   rw [k1]at o;obtain ⟨ns,fs,mm,cs,rfl,v,w,y,A⟩:=f;exact LX @c0 @D @E @F @G @v @w @y @A @o
 | true=>
 rw [k1]at o
 cases k2:jH os.els ts.els us.els is.els with
 | false=>
   rw [k2]at B;obtain ⟨ns,fs,mm,cs,rfl,v,w,y,A⟩:=f;exact PM @c0 @D @E @F @G @v @w @y @A @o @B
 | true=>
 rw [k2]at B;obtain ⟨xs,u,q⟩:=C.os;rw [Bool.and_self,if_pos rfl];obtain ⟨ns,fs,mm,cs,rfl,v,w,y,A⟩:=f;refine xY @c0 @D @E @F @G @v @w @y @A @o @B ?_
 refine aL (fun i e=>∃ t z,e=⟨34,none,6,t,[],⟨2,0,(Tr.leaf.set 0 (aQ 0 [ns,fs,mm,cs])).set 1 (aQ 0 [os,ts,us,is,no])⟩,.no⟩/\t.val 3=.ptr 1 0 0/\t.val 5=.int .i64 z/\t.val 6=.int .i64 (i:Nat)/\i<=xs.length/\ZZ os.els 0=ZZ (xs.drop i) z) (fun i=>xs.length-i) 0
  ⟨_,0,rfl,aG,aG,eA,Nat.zero_le _,by rw [u.els];rfl⟩ ?_
 rintro i _ ⟨t,z,rfl,Q,R,S,X,f⟩
 rcases Nat.lt_or_ge i xs.length with r | M
 ·obtain ⟨x,H,hm,V,U,N,Y,J⟩:=bB (k:=4) (fun x h=>tk_ob.len h) q u.2 r
  rw [U,ZZ]at f;obtain ⟨a,b,c,d,rfl,⟨k,rfl⟩,⟨m,rfl⟩,Z,T⟩:=H;obtain ⟨ys,l,_⟩:=T;rw [show (AV.agg [.int .i64 k,.int .i64 m,c,d]).fld 3=d from rfl,l.els]at f;have I:=l.cell;refine rA @Q @R @S u.lX u.iX @N @J @Y l.lX @I ?_;exact ⟨i+1,by show _-_<_-_;omega,_,_,rfl,aM @Q,aG,aG,r,f⟩
 ·obtain rfl:i=xs.length:=Nat.le_antisymm X M
  rw [List.drop_length,ZZ]at f;have k1:(((xs.length:Nat):Int)<((xs.length:Nat):Int))=False:=eq_false (Int.lt_irrefl _);exact az6 @Q @R @S u.lX @k1 @f
theorem aFc (a:dD p) (c:SmP p):Abs.Returns Tryz.prog 37 [p] (.bool (zX p)):=by
 have b:EB [p]=some (.bool (zX p)):=cR ⟨a,c⟩;refine aF (L:=[ent 85 EB]) (elist_cons rformedV_ok.ent aE) aN (by kernel_rfl) Tryz.func37 Tryz.ntmps37 Tryz.results37 rfl rfl (aA (cL p a).1.und aD) aJ ?_;obtain ⟨ns,fs,mm,cs,rfl,a1,a2,a3,a4⟩:=a;have d:=(bP _ a1).2;have e:=(aT _ a2).2;have f:=(tu_int _ a3).2;have h:=(cJ _ a4).2;exact PL @d @e @f @h @b
theorem aFd (a:dD p) (u:SmP p) (c:WG os ts us is no):Abs.Returns Tryz.prog 10 [p,dP os ts us is no] (.bool (jI p&&sW p (dP os ts us is no))):=by
 rw [aFv a];have r:LN [p,.agg [os,ts,us,is,no]]=some (.bool (aFu p (dP os ts us is no))):=sg2_eq ⟨a,c.wd⟩;obtain ⟨c0,d,e,f,h⟩:=c.cells;have b:=aFc a u;refine aF (L:=[eZ 37 [p] (.bool (zX p)),ent 19 LN]) (elist_cons (bL b) (elist_cons rWorld_ok.ent aE)) aN (by kernel_rfl) Tryz.func10 Tryz.ntmps10 Tryz.results10 rfl rfl (aA (cL p a).1.und (aA c.und.und aD)) aJ ?_;clear b;obtain ⟨ns,fs,mm,cs,rfl,a1,a2,a3,a4⟩:=a;have l:=(bP _ a1).2;have m:=(aT _ a2).2;have o:=(tu_int _ a3).2;have q:=(cJ _ a4).2;generalize aFu (.agg [ns,fs,mm,cs]) (dP os ts us is no)=B at *
 cases k:zX (.agg [ns,fs,mm,cs]) with
 | false=>
   rw [Bool.false_and];exact LX @c0 @d @e @f @h @l @m @o @q @eC
 | true=>
   rw [Bool.true_and];exact vI @c0 @d @e @f @h @l @m @o @q @eC @jP @r
end
section
variable {p os ts us is no:AV}
theorem aTa (b:WG os ts us is no) (c:jH os.els ts.els us.els is.els=true) (a:(jI p&&sW p (dP os ts us is no))=true):GW os ts us is no:=by
 rw [Bool.and_eq_true]at a;exact aTb b c a.2
theorem aPu (a:dY (p.fld 0).els (p.fld 1).els (p.fld 3).els=true):SmP p:=by
 simp only [dY,Bool.and_eq_true,decide_eq_true_eq]at a;show _<=1000;omega
end
end
end Go.Proofs.YtdipddlhenoglaaGreat
