/-
  What some tasks reach, and the isle of a task, by the reference.
-/
import Derived.Test.YtdipddlhenoglaaGreatYc
set_option linter.unusedVariables false
set_option linter.unusedSimpArgs false
namespace Go.Proofs.YtdipddlhenoglaaGreat
open Go.Abs Go Go.Abs.TryzF
noncomputable section
set_option maxRecDepth 10000
structure WLs (g:Nat->List Nat) (N:Nat) (rs:List Nat) (j:Nat) (R:List Nat):Prop where
 nd:R.Nodup
 lt:∀ x∈R,x<N/\∃ r∈rs,Abs.Way g r x
 ro:∀ r∈rs,r∈R
 jl:j<=R.length
 cl:∀ i n,i<j->R[i]?=some n->∀ y∈g n,y∈R
def eT (l:List Nat):List Nat:=l.foldl mN []
theorem SD {l:List Nat} {i k:Nat} (h:l[i]?=some k):eT (l.take (i+1))=mN (eT (l.take i)) k:=by
 rw [List.take_add_one,h,eT,List.foldl_append];rfl
theorem nH:∀ (l R:List Nat),R.Nodup->(l.foldl mN R).Nodup/\∀ x,x∈l.foldl mN R↔x∈R∨x∈l
 | [],R,h=>⟨h,fun x=>by simp⟩
 | y::l,R,h=>by
   obtain ⟨a,b⟩:=nH l (mN R y) (KF h);refine ⟨a,fun x=>?_⟩;rw [List.foldl_cons,b,eV,List.mem_cons,or_assoc]
theorem mX {l:List Nat} {x:Nat}:x∈eT l↔x∈l:=by
 rw [eT,(nH l [] List.nodup_nil).2];simp
theorem WLs.len {g:Nat->List Nat} {N j:Nat} {c R:List Nat} (h:WLs g N c j R):R.length<=N:=by
 have:=lD (cE R) (cE (List.range N)) (List.pairwise_map.2 (h.nd.imp fun h e=>h aC)) fun x a=>by
  obtain ⟨y,b,rfl⟩:=List.mem_map.1 a;exact List.mem_map.2 ⟨y,List.mem_range.2 (h.lt y b).1,rfl⟩
 simpa [cE] using this
theorem WLs.put {g:Nat->List Nat} {N j:Nat} {c R:List Nat} (h:WLs g N c j R) {x:Nat} (l:x<N/\∃ r∈c,Abs.Way g r x):WLs g N c j (mN R x) where
 nd:=KF h.nd
 lt:=fun y b=>by
  rcases eV.1 b with b | rfl
  ·exact h.lt y b
  ·exact l
 ro:=fun r k=>eV.2 (.inl (h.ro r k))
 jl:=Nat.le_trans h.jl putN_pre.length_le
 cl:=fun i n e f y b=>by
  have a:i<R.length:=Nat.lt_of_lt_of_le e h.jl;have d:=List.prefix_iff_getElem?.1 (putN_pre (R:=R) (x:=x)) i a;rw [f]at d;exact eV.2 (.inl (h.cl i n e (by rw [List.getElem?_eq_getElem a];exact d.symm) y b))
theorem WLs.step {g:Nat->List Nat} {N j n:Nat} {e R:List Nat} (h:WLs g N e j R) (c:R[j]?=some n) (k:∀ y∈g n,y∈R):WLs g N e (j+1) R where
 nd:=h.nd
 lt:=h.lt
 ro:=h.ro
 jl:=(List.getElem?_eq_some_iff.1 c).1
 cl:=fun i m l b y d=>by
  rcases Nat.lt_or_ge i j with a | f
  ·exact h.cl i m a b y d
  ·obtain rfl:i=j:=by omega
   rw [c]at b;cases b;exact k y d
theorem WLs.fin {g:Nat->List Nat} {N:Nat} {b R:List Nat} (h:WLs g N b R.length R) {x:Nat}:x∈R↔∃ r∈b,Abs.Way g r x:=by
 constructor
 ·exact fun f=>(h.lt x f).2
 ·rintro ⟨r,d,e⟩
  refine XI (g:=g) (t:=b) (fun y a=>h.ro y a) (fun y a z k=>?_) ⟨r,d,e⟩;obtain ⟨i,c,rfl⟩:=List.mem_iff_getElem.1 a;exact h.cl i _ c (List.getElem?_eq_getElem c) z k
theorem aEi {os ts:AV} {k j:Nat} (h:j∈dC os ts k):j<ts.els.length:=List.mem_range.1 (List.mem_filter.1 h).1
section
variable {os ts us is no:AV}
def gA (os ts:AV) (l:List Nat):List Nat:=cB (kA os ts l) os.els.length
theorem wA (os ts:AV) (l:List Nat):(gA os ts l).length<=os.els.length:=mY _ _
theorem SE (h:GW os ts us is no) {l R:List Nat} (d:∀ k∈l,k<ts.els.length) (c:WLs (kK os.els) os.els.length (l.map (bR ts)) R.length R):kB R os.els.length=gA os ts l:=by
 refine List.filter_congr fun x f=>?_
 rw [decide_eq_decide,aEr h d,c.fin];constructor
 ·rintro ⟨r,e,b⟩
  obtain ⟨k,a,rfl⟩:=List.mem_map.1 e;exact ⟨k,a,eJ.2 ⟨List.mem_range.1 f,b⟩⟩
 ·rintro ⟨k,a,b⟩
  exact ⟨_,List.mem_map.2 ⟨k,a,rfl⟩,(eJ.1 b).2⟩
set_option maxHeartbeats 8000000 in
theorem SF (h:GW os ts us is no) {l:List Nat} (hl:∀ k∈l,k<ts.els.length) (bx:l.length<=120) {k0:Nat} (bg:k0∈l):Abs.Returns Tryz.prog 41 [dP os ts us is no,aW l] (aW (gA os ts l)):=by
 have br:=h.g.und;obtain ⟨c0,c1,c2,c3,c4⟩:=h.g.cells;have X:=fZ (l:=l) aC
 have bq:Sl ts ts.els:=by
  obtain ⟨xs,P,_⟩:=h.g.ts;rw [P.els];exact P
 have bp:Sl os os.els:=by
  obtain ⟨xs,P,_⟩:=h.g.os;rw [P.els];exact P
 refine bU (L:=[ent 88 nI,bG 65 (CD 1),bG 66 mO]) (elist_cons qvalV_ok.ent (elist_cons XA (elist_cons CO aE))) (hRc 1) (by kernel_rfl) Tryz.func41 Tryz.ntmps41 Tryz.results41 rfl rfl (aA br.und (aA (eD aC).und aD)) ?_;have ba:(aW l).isCell=true:=cY;have b0:=(eD (l:=l) aC).mono (Nat.zero_le 1);refine EW @c0 @c1 @c2 @c3 @c4 ?_
 refine aL (fun i e=>∃ t n low o v,e=⟨65,none,41,t,[],⟨n,low,o⟩,.no⟩/\t.val 1=aW l/\t.val 2=.ptr 0 0 0/\t.val 5=v/\t.val 6=.int .i64 (i:Nat)/\o.get 0=some (aQ 0 [os,ts,us,is,no])/\1<=n/\AccI 1 v n o (aU (eT ((l.map (bR ts)).take i)))/\i<=l.length) (fun i=>l.length-i) 0
  ⟨_,_,_,_,.nils,rfl,aG,aG,aG,eA,aG,Nat.le_refl _,.inl ⟨rfl,rfl⟩,Nat.zero_le _⟩ ?_
 rintro i _ ⟨t,n,low,o,v,rfl,t1,D,E,t6,B,C,A,hi⟩;have T:=eM (show 0<n by omega)
 have bl:(eT ((l.map (bR ts)).take i)).length<=120:=by
  have h1:=(nH ((l.map (bR ts)).take i) [] List.nodup_nil).1
  have:=lD (cE (eT ((l.map (bR ts)).take i))) (cE ((l.map (bR ts)).take i)) (List.pairwise_map.2 (h1.imp fun h e=>h aC)) fun x hx=>by
   obtain ⟨y,hy,rfl⟩:=List.mem_map.1 hx;exact List.mem_map.2 ⟨y,mX.1 hy,rfl⟩
  simp only [cE,List.length_map,List.length_take]at this;omega
 rcases Nat.lt_or_ge i l.length with f | M
 ·have aj:=List.getElem?_eq_getElem f
  have bh:=hl _ (List.getElem_mem f);have u:=SD (l:=l.map (bR ts)) (i:=i) (k:=bR ts l[i]) (by rw [List.getElem?_map,aj];rfl);generalize l[i]=k at *;obtain ⟨q1,q2⟩:=h.task bh;obtain ⟨v',⟨n1,Q,o1⟩,⟨p1,p2,p3,p4⟩,p5⟩:=CK (s:=⟨n,low,o⟩) (lo:=1) A C aC (bR ts k);have Y:orcL [ent 88 nI,bG 65 (CD 1),bG 66 mO] 65 [v,.int .i64 (bR ts k:Nat)] ⟨n,low,o⟩=_:=p5 [bG 66 mO]
  have U:=fun {q:IntKind} {d:Option AV}=>iQ (k:=1) q2 rfl (q:=q) (d:=d)
  have bd:=fun {q:IntKind} {d:Option AV}=>iQ (k:=1) (cP aj) rfl (q:=q) (d:=d)
  have k3:(((i:Nat):Int)<((l.length:Nat):Int))=True:=eq_true aC
  have bs:IntKind.i64.wrap ((i:Int)+1)=((i+1:Nat):Int):=by rw [IntWalk.i64_in _ aC];rfl
  have hu:=AccI.und A;have aw:n<=n1:=p2;have ks:pE (CH n 1) ⟨n,low,o⟩ ⟨n1,Q,o1⟩:=pN (Nat.min_le_right _ _) C p2 p3;simp +contextual +decide (maxSteps:=1000000) only [↓ wP,wQ,tf,Nat.reduceAdd,wS,aSy,IT,nL,t1,D,E,t6,B,T,k3,aS,X.len,X.idx,bd,bq.idx,U,Y,hu,aw,ks,bs];exact ⟨i+1,by show _-_<_-_;omega,_,_,_,_,v',rfl,aM @t1,aM @D,aG,aG,(p3 0 aC).trans B,Nat.le_trans C p2,by rw [u];exact p1,f⟩
 ·obtain rfl:i=l.length:=Nat.le_antisymm hi M
  have k3:(((l.length:Nat):Int)<((l.length:Nat):Int))=False:=eq_false (Int.lt_irrefl _);rw [List.take_of_length_le (by rw [List.length_map];exact Nat.le_refl _)]at A bl;refine EW @t1 @t6 @k3 @aS X.lX ?_
  have w:WLs (kK os.els) os.els.length (l.map (bR ts)) 0 (eT (l.map (bR ts))):=
   {nd:=(nH _ [] List.nodup_nil).1,lt:=fun x hx=>by
        have hx:=mX.1 hx;obtain ⟨k,hk,e⟩:=List.mem_map.1 hx
        exact ⟨e ▸ (h.task (hl k hk)).1,x,hx,.refl _⟩,ro:=fun r hr=>mX.2 hr,jl:=Nat.zero_le _,cl:=fun i n hi=>(Nat.not_lt_zero _ hi).elim}
  refine aL (fun j e=>∃ t n low o v R,e=⟨65,none,41,t,[],⟨n,low,o⟩,.no⟩/\t.val 2=.ptr 0 0 0/\t.val 5=v/\t.val 7=.int .i64 (j:Nat)/\o.get 0=some (aQ 0 [os,ts,us,is,no])/\1<=n/\AccI 1 v n o (aU R)/\WLs (kK os.els) os.els.length (l.map (bR ts)) j R) (fun j=>os.els.length-j) 0
   ⟨_,_,_,_,v,_,rfl,aM @D,aM @E,eA,B,C,A,w⟩ ?_
  clear t1 D E t6 B C A T hi M w;rintro j _ ⟨t,n,low,o,v,R,rfl,D,E,S,B,C,A,w⟩;have T:=eM (show 0<n by omega);have bw:=w.len;have bz:=h.ol;have bf:=w.jl;have J:=A;have hu:=AccI.und A
  rcases A with ⟨e,_⟩ | ⟨h0,bu,g2,c2,rfl,_,ag,an,c⟩
  ·have:=w.ro _ (List.mem_map.2 ⟨k0,bg,rfl⟩)
   rw [List.map_eq_nil_iff.1 e]at this;cases this
  rw [aS]at E J;have f3:=eM c
  rcases Nat.lt_or_ge j R.length with f | M
  ·have ab:=List.getElem?_eq_getElem f
   have bi:=List.getElem_mem f;generalize R[j]=m at *;obtain ⟨ao,r0,bn,bj⟩:=w.lt m bi;obtain ⟨xs,P,ad⟩:=h.g.os;have F:=P.els;have ah:=h.a.good;have V:=h.a.refs;rw [F]at ao ah;obtain ⟨x,aa,hm,bb,_,U,hw,ba⟩:=bB (k:=4) (fun x h=>tk_ob.len h) ad (show xs.length<=9223372036854775807 by have:=P.2;omega) ao
   have bk:=fun {d:Option AV}=>tk_ob.pf aa (d:=d)
   have al:=ah x hm;have bm:nI [x]=some (dR (bS x)):=cR al;have be:=cP ab;have k1:(((j:Nat):Int)<((R.length:Nat):Int))=True:=eq_true aC;have k2:(0<=((j:Nat):Int))=True:=eq_true aC
   have bt:IntKind.i64.wrap ((j:Int)+1)=((j+1:Nat):Int):=by rw [IntWalk.i64_in _ aC];rfl
   refine HB @aSz @D @E @S @B @T @f3 @ag @be @k1 @k2 P.iX @U @bk @bm @Int.toNat_natCast @Nat.mul_one @Nat.zero_add ?_;have b1:(bS x).length<=100000:=al.2.2;have ay:∀ v∈bS x,tJ v:=iC (nK aa);have H:Sl (dR (bS x)) (bS x):=lM aC;have bo:=V x (by rw [F];exact hm)
   have ak:kK os.els m=kC (bS x):=by rw [kK,F,List.getD_eq_getElem?_getD,bb];rfl
   generalize bS x=Z at *
   refine aL (fun k e=>∃ t n low o v I,e=⟨65,none,41,t,[],⟨n,low,o⟩,.no⟩/\t.val 2=.ptr 0 0 0/\t.val 5=v/\t.val 7=.int .i64 (j:Nat)/\t.val 8=dR Z/\t.val 9=.int .i64 (k:Nat)/\o.get 0=some (aQ 0 [os,ts,us,is,no])/\1<=n/\AccI 1 v n o (aU I)/\WLs (kK os.els) os.els.length (l.map (bR ts)) j I/\R <+: I/\(∀ y∈kC (Z.take k),y∈I)/\k<=Z.length) (fun k=>Z.length-k) 0
    ⟨_,_,_,_,_,R,rfl,aM @D,aM @E,aM @S,aG,eA,B,C,J,w,List.prefix_rfl,fun y hy=>(nomatch hy),Nat.zero_le _⟩ ?_
   clear D E S B C J w T f3 ag c hu an;rintro k _ ⟨t,n,low,o,v,I,rfl,D,E,S,t8,t9,B,C,A,w,G,O,hk⟩;have T:=eM (show 0<n by omega);have hu:=AccI.und A;have bv:=w.len
   rcases Nat.lt_or_ge k Z.length with c | ai
   ·obtain ⟨y,ax,ap,bc,_,am,av,ae⟩:=bB (k:=2) (fun x h=>tk_val.len h) ay (show Z.length<=9223372036854775807 by omega) c
    have u:=DP bc;have aq:=bo y ap;obtain ⟨a,b,rfl,⟨ka,rfl⟩,⟨kb,rfl⟩⟩:=ax;rw [show ((AV.agg [.int .i64 ka,.int .i64 kb]).fld 0).num=ka from rfl,show ((AV.agg [.int .i64 ka,.int .i64 kb]).fld 1).num=kb from rfl]at u aq;by_cases h5:ka=5
    ·obtain ⟨r1,r2⟩:=aq h5
     subst h5;rw [if_pos rfl]at u
     obtain ⟨b,rfl⟩:∃ b:Nat,kb=(b:Nat):=⟨kb.toNat,aC⟩
     rw [Int.toNat_natCast]at u
     have hb:b∈kK os.els m:=by
      rw [ak];exact List.mem_filterMap.2 ⟨_,ap,by simp [AV.fld,AV.num]⟩
     have az:b<os.els.length/\∃ r∈l.map (bR ts),Abs.Way (kK os.els) r b:=⟨h.a.lt b hb,r0,bn,bj.trans (.step hb (.refl _))⟩
     obtain ⟨v',⟨n1,Q,o1⟩,⟨p1,p2,p3,p4⟩,p5⟩:=CK (s:=⟨n,low,o⟩) (lo:=1) A C aC b;have Y:orcL [ent 88 nI,bG 65 (CD 1),bG 66 mO] 65 [v,.int .i64 (b:Nat)] ⟨n,low,o⟩=_:=p5 [bG 66 mO];have aw:n<=n1:=p2;refine UO @E @t8 @t9 H.lX H.iX @am @av @ae @Y ?_;refine ⟨k+1,by show _-_<_-_;omega,_,_,_,_,v',mN I b,rfl,aM @D,aG,aM @S,aM @t8,aG,(p3 0 aC).trans B,Nat.le_trans C p2,p1,w.put az,G.trans putN_pre,?_,c⟩;intro z hz;rw [u]at hz
     rcases List.mem_append.1 hz with hz | hz
     ·exact eV.2 (.inl (O z hz))
     ·exact eV.2 (.inr (List.mem_singleton.1 hz))
    ·rw [if_neg h5,List.append_nil]at u
     refine JB @t8 @t9 H.lX H.iX @am @av @ae @h5 ?_;exact ⟨k+1,by show _-_<_-_;omega,_,_,_,_,v,I,rfl,aM @D,aM @E,aM @S,aM @t8,aG,B,C,A,w,G,by rw [u];exact O,c⟩
   ·obtain rfl:k=Z.length:=Nat.le_antisymm hk ai
    rw [List.take_length]at O;refine PJ @S @t8 @t9 @bH H.lX @bt ?_
    have ac:I[j]?=some m:=by
     have:=List.prefix_iff_getElem?.1 G j f;rw [<-List.getElem?_eq_getElem f,ab]at this;exact this
    exact ⟨j+1,by show _-_<_-_;omega,_,_,_,_,v,I,rfl,aM @D,aM @E,aG,B,C,A,w.step ac (by rw [ak];exact O)⟩
  ·obtain rfl:j=R.length:=Nat.le_antisymm bf M
   have af:=SE h hl w;have ar:=CN (RowN.acc (low:=low) J) aC (N:=os.els.length) aC [];rw [af]at ar;have au:orcL [ent 88 nI,bG 65 (CD 1),bG 66 mO] 66 [.sl bu g2 0 R.length c2,.int .i64 (os.els.length:Nat)] ⟨n,low,o⟩=_:=ar;have k1:(((R.length:Nat):Int)<((R.length:Nat):Int))=False:=eq_false aC;refine JB @D @E @S @k1 @B @T bp.lX @au ?_;exact .und _ (eD (by have:=wA os ts l;omega)).und
abbrev xF (os ts us is no:AV):List AV->Option AV:=wX (fun w a=>w=dP os ts us is no/\∃ l:List Nat,a=aW l/\(∀ k∈l,k<ts.els.length)/\l.length<=120/\∃ k,k∈l) fun _ a=>aW (gA os ts (zM a))
theorem SH (h:GW os ts us is no):Abs.Ok Tryz.prog 41 (xF os ts us is no):=ok2 fun w a ⟨b,l,c,d,e,k,f⟩=>by
 subst b;subst c;rw [lI aC];exact SF h d e f
theorem SI {k:Nat} (a:k<ts.els.length):k∈dC os ts k:=List.mem_filter.2 ⟨List.mem_range.2 a,decide_eq_true rfl⟩
theorem ZS (h:GW os ts us is no) {k:Nat} (u:k<ts.els.length):Abs.Returns Tryz.prog 51 [dP os ts us is no,.int .i64 (k:Nat)] (aW (dC os ts k)):=by
 have b:=h.g.und;obtain ⟨c0,d,e,f,m⟩:=h.g.cells
 have o:(zL os ts).isCell=true:=by unfold zL;split<;>rfl
 have q:=uL os ts k;have w:=h.ol;have v:=h.l
 have a:KG os ts us is no [.agg [os,ts,us,is,no],zL os ts,.int .i64 (k:Nat)]=some (aW (dC os ts k)):=by
  rw [KG,kP (c:=.int .i64 (k:Nat)) ⟨rfl,rfl,k,u,rfl⟩];rfl
 refine aF (L:=[eZ 38 [dP os ts us is no] (zL os ts),ent 39 (KG os ts us is no)]) (elist_cons (bL (aLc h)) (elist_cons (ZY h).ent aE)) (fun r=>(bif Nat.beq r 1 then [2,4] else [],[])) (by kernel_rfl) Tryz.func51 Tryz.ntmps51 Tryz.results51 rfl rfl (aA b.und (aA aV aD)) (eD aC).und ?_;exact az8 @c0 @d @e @f @m @eC @jP @a
end
section
variable {ns fs mm cs os ts us is no:AV}
theorem aEj (w:dD (.agg [ns,fs,mm,cs])) (u:GP ns.els fs.els) {c m g:Nat} {M:List Bool} {o:AV} {out:List Nat} {s:Sto} (h:CoS ns fs mm cs c m g M s) (v:OkO ns.els fs.els o) (a:Run (mL ns.els fs.els) M (SO ns.els fs.els o) out) (L:List kG):
 orcL (bG 67 (aEn ns fs mm cs)::L) 67 [.ptr c 0 0,o] s=some (.ret (.tuple []) (some (s.put m (aQ g (aI (aO M out)))))):=by
 obtain ⟨res,d,k⟩:=dX (f:=67) (ZU w u h v a);obtain ⟨A,C,B,y,o',b,e,l,_,q,r,_⟩:=d;simp only [List.cons.injEq,AV.ptr.injEq,and_true]at e;obtain ⟨rfl,rfl⟩:=e;obtain ⟨rfl,rfl,rfl⟩:=h.uniq l;obtain rfl:=a.det q;rw [k L,r]
def HU (ns fs os:List AV) (l:List Nat):List Nat:=l.flatMap fun x=>SO ns fs (os.getD x .top)
abbrev xG (os ts us is no:AV):List AV->Option AV:=wX (fun w t=>w=dP os ts us is no/\∃ k:Nat,k<ts.els.length/\t=.int .i64 (k:Nat)) fun _ t=>aW (dC os ts t.num.toNat)
theorem SJ (h:GW os ts us is no):Abs.Ok Tryz.prog 51 (xG os ts us is no):=ok2 fun w t ⟨a,k,c,b⟩=>by
 subst a;subst b;exact ZS h c
def hCr:dG:=fun r=>if r=1 then ([3,4],[]) else ([],[])
theorem aKs:hCr 1=([3,4],[])/\hCr 2=([],[])/\hCr 6=([],[])/\hCr 10=([],[])/\hCr 14=([],[]):=⟨rfl,rfl,rfl,rfl,rfl⟩
set_option maxHeartbeats 8000000 in
theorem aEk (hp:dD (.agg [ns,fs,mm,cs])) (hg:GP ns.els fs.els) (h:GW os ts us is no) (ho:∀ o∈os.els,OkO ns.els fs.els o) {k:Nat} (hk:k<ts.els.length) {m:List Nat} (aa:m=gA os ts (dC os ts k)) {out:List Nat} (H:Run (mL ns.els fs.els) (List.replicate ns.els.length false) (HU ns.els fs.els os.els m) out):
 Abs.Returns Tryz.prog 23 [.agg [ns,fs,mm,cs],dP os ts us is no,.int .i64 (k:Nat)] (aW (cB (aO (aO (List.replicate ns.els.length false) out) (jG os.els m)) ns.els.length)):=by
 have b4:=(cL _ hp).1;have b5:=h.g.und;obtain ⟨c0,c1,c2,c3,c4⟩:=h.g.cells;have hm:ts.els.length<=120:=Nat.le_trans h.l h.ol;have V:(dC os ts k).length<=120:=Nat.le_trans (uL os ts k) aC
 have bx:xG os ts us is no [.agg [os,ts,us,is,no],.int .i64 (k:Nat)]=some (aW (dC os ts k)):=by
  rw [xG,sg2_eq (b:=.int .i64 (k:Nat)) ⟨rfl,k,hk,rfl⟩];rfl
 have b0:xF os ts us is no [.agg [os,ts,us,is,no],aW (dC os ts k)]=some (aW m):=by
  rw [xF,sg2_eq (b:=aW (dC os ts k)) ⟨rfl,_,rfl,fun j hj=>aEi hj,V,k,SI hk⟩,lI aC,aa]
 have U:∀ x∈m,x<os.els.length:=fun x hx=>by
  rw [aa,gA,cB]at hx;exact List.mem_range.1 (List.mem_filter.1 hx).1
 have bo:m.length<=os.els.length:=by rw [aa];exact wA _ _ _
 clear aa;have P:=fZ (l:=m) (by have:=h.ol;omega);obtain ⟨a0,a1,a2,a3,e,aj,be,bh,ba⟩:=id hp;simp only [AV.agg.injEq,List.cons.injEq,and_true]at e;obtain ⟨rfl,rfl,rfl,rfl⟩:=e;have d0:=(bP _ aj).2;have d1:=(aT _ be).2;have d2:=(tu_int _ bh).2;have d3:=(cJ _ ba).2;have bi:=aj;obtain ⟨u,G,ce⟩:=aj;have b2:=hg.nl;rw [G.els]at b2;refine bU (L:=[ent 51 (xG os ts us is no),ent 41 (xF os ts us is no),bG 67 (aEn ns fs mm cs)]) (elist_cons (SJ h).ent (elist_cons (SH h).ent (elist_cons aEo aE))) hCr (by kernel_rfl) Tryz.func23 Tryz.ntmps23 Tryz.results23 rfl rfl (aA b4.und (aA b5.und (aA aV aD))) ?_;have u0:=(bP _ bi).1.mono (Nat.zero_le 3);have u1:=(aT _ be).1.mono (Nat.zero_le 3);have u2:=(tu_int _ bh).1.mono (Nat.zero_le 3);have u3:=(cJ _ ba).1.mono (Nat.zero_le 3);obtain ⟨xo,al,aw⟩:=h.g.os;have bb:=al.els;have b3:=h.ol;rw [bb]at ho H b3 U bo ⊢;rw [G.els]at H ⊢;have b9:cA [AV.nils,AV.nils,AV.int .i64 0,AV.nils,AV.nils] 0 [ns,fs,mm,cs]=[ns,fs,mm,cs,.nils]:=rfl;have cj:∀ {a:AV},cA [ns,fs,mm,cs,AV.nils] 4 [a]=[ns,fs,mm,cs,a]:=rfl;have cf:(aW m).isCell=true:=cY;simp +contextual +decide (maxSteps:=1000000) only [↓ wP,wQ,tf,Nat.reduceAdd,wS,aKs,b9,c0,c1,c2,c3,c4,d0,d1,d2,d3,u0,u1,u2,u3,G.len,G.stab,lK (n:=u.length) (show u.length<=1000 by omega),XH,bx,b0];generalize av:List.replicate u.length false=Y at *
 have ab:Y.length=u.length:=by rw [<-av,List.length_replicate]
 refine aL (fun i e=>∃ t n low o p rest,e=⟨95,none,23,t,[],⟨n,low,o⟩,.no⟩/\t.val 3=.ptr 0 0 0/\t.val 4=.ptr 1 0 0/\t.val 7=aW m/\t.val 8=.ptr 3 0 0/\t.val 9=.int .i64 (i:Nat)/\o.get 0=some (aQ 0 [ns,fs,mm,cs])/\o.get 1=some (aQ 0 [os,ts,us,is,no])/\o.get 3=some (aQ 0 [ns,fs,mm,cs,.sl 2 0 0 u.length (.is u.length)])/\o.get 2=some (aQ 0 (aI (aO Y p)))/\4<=n/\Run (mL u fs.els) (aO Y p) (HU u fs.els xo (m.drop i)) rest/\out=p++rest/\i<=m.length) (fun i=>m.length-i) 0
  ⟨_,_,_,_,[],out,rfl,aG,aG,aG,aG,eA,qO,qO,aG,by rw [show aO Y []=Y from rfl];exact qO,Nat.le_refl _,H,rfl,Nat.zero_le _⟩ ?_
 rintro i _ ⟨t,n,low,o,p,rest,rfl,t3,R,I,A,t9,g0,Q,y,E,N,hr,ak,hi⟩;have f0:=dO (show 0<n by omega);have f1:=dO (show 1<n by omega);have Z:=dO (show 2<n by omega);have X:=dO (show 3<n by omega)
 rcases Nat.lt_or_ge i m.length with w | F
 ·have J:=List.getElem?_eq_getElem w
  have an:=U _ (List.getElem_mem w);rw [List.drop_eq_getElem_cons w]at hr;generalize m[i]=r at *;obtain ⟨x,S,ai,ag,_,ah,b8,bt⟩:=bB (k:=4) (fun x h=>tk_ob.len h) aw (show xo.length<=9223372036854775807 by omega) an
  have bj:=fun {d:Option AV}=>tk_ob.pf S (d:=d)
  have b6:=(tk_ob x S).1.mono (Nat.zero_le n)
  have bm:3<n:=by omega
  have af:xo.getD r .top=x:=by rw [List.getD_eq_getElem?_getD,ag];rfl
  rw [HU,List.flatMap_cons,af]at hr;obtain ⟨p1,p2,r1,r2,r3⟩:=hr.split (SO u fs.els x) _ rfl;rw [bQ]at r2;have B:(aO Y p).length=u.length:=(bK _ _).trans ab;have hC:CoS ns fs mm cs 3 2 0 (aO Y p) ⟨n,low,o⟩:=CoS.mk' aC aC (by rw [B];exact y) E (by rw [B,G.els]) aC;have ax:=aEj hp hg hC (ho x ai) (by rw [G.els];exact r1) [];rw [Sto.put_any,bQ]at ax;have ay:orcL [ent 51 (xG os ts us is no),ent 41 (xF os ts us is no),bG 67 (aEn ns fs mm cs)] 67 [.ptr 3 0 0,x] ⟨n,low,o⟩=_:=ax
  have V:=fun {q:IntKind} {d:Option AV}=>iQ (k:=1) (cP J) rfl (q:=q) (d:=d)
  have k3:(((i:Nat):Int)<((m.length:Nat):Int))=True:=eq_true aC
  have am:IntKind.i64.wrap ((i:Int)+1)=((i+1:Nat):Int):=by rw [IntWalk.i64_in _ aC];rfl
  refine UP @aKs @R @I @A @t9 @Q @f1 @k3 @aS P.lX P.iX @V al.iX @ah @bj @ay @am @b6 @bm ?_;exact ⟨i+1,by show _-_<_-_;omega,_,_,_,_,p++p1,p2,rfl,aM @t3,aM @R,aM @I,aM @A,aG,by rw [Tr.get_set_ne _ _ aC];exact g0,by rw [Tr.get_set_ne _ _ aC];exact Q,by rw [Tr.get_set_ne _ _ aC];exact y,Tr.get_set_same _ _ _,N,r2,by rw [ak,r3,List.append_assoc],w⟩
 ·obtain rfl:i=m.length:=Nat.le_antisymm hi F
  rw [List.drop_length]at hr
  obtain rfl:rest=[]:=by cases hr;rfl
  rw [List.append_nil]at ak;subst ak;have k3:(((m.length:Nat):Int)<((m.length:Nat):Int))=False:=eq_false (Int.lt_irrefl _);refine EW @I @t9 @k3 @aS P.lX ?_;have T:(aO Y out).length=u.length:=(bK _ _).trans ab;generalize aO Y out=M1 at *;clear H hr k3 f0 f1 Z X av;generalize c:aO M1 (jG xo m)=MA
  have ca:MA.length=u.length:=by rw [<-c,bK];exact T
  refine aL (fun i e=>∃ t n low o M,e=⟨95,none,23,t,[],⟨n,low,o⟩,.no⟩/\t.val 4=.ptr 1 0 0/\t.val 7=aW m/\t.val 8=.ptr 3 0 0/\t.val 10=.int .i64 (i:Nat)/\o.get 1=some (aQ 0 [os,ts,us,is,no])/\o.get 3=some (aQ 0 [ns,fs,mm,cs,.sl 2 0 0 u.length (.is u.length)])/\o.get 2=some (aQ 0 (aI M))/\4<=n/\M.length=u.length/\aO M (jG xo (m.drop i))=MA/\i<=m.length) (fun i=>m.length-i) 0
   ⟨_,_,_,_,M1,rfl,aM @R,aM @I,aM @A,eA,Q,y,E,N,T,c,Nat.zero_le _⟩ ?_
  clear t3 R I A t9 g0 Q E y N T c F hi;rintro i _ ⟨t,n,low,o,M,rfl,R,I,A,D,Q,y,E,N,B,c,hi⟩;have f1:=dO (show 1<n by omega);have Z:=dO (show 2<n by omega);have X:=dO (show 3<n by omega)
  rcases Nat.lt_or_ge i m.length with w | F
  ·have J:=List.getElem?_eq_getElem w
   have an:=U _ (List.getElem_mem w);rw [List.drop_eq_getElem_cons w]at c;generalize m[i]=r at *;obtain ⟨x,S,ai,ag,_,ah,b8,bt⟩:=bB (k:=4) (fun x h=>tk_ob.len h) aw (show xo.length<=9223372036854775807 by omega) an
   have bj:=fun {d:Option AV}=>tk_ob.pf S (d:=d)
   have af:xo.getD r .top=x:=by rw [List.getD_eq_getElem?_getD,ag];rfl
   rw [jG,List.flatMap_cons,af]at c;have ac:=(ho x ai).frm;obtain ⟨fk,ae,ar,ad,rfl,⟨fk,rfl⟩,⟨ae,rfl⟩,ch,bd⟩:=id S;have bs:=(gZ _ bd).2;obtain ⟨fl,O,bp⟩:=bd;rw [show ((AV.agg [.int .i64 fk,.int .i64 ae,ar,ad]).fld 3).els=fl from O.els]at ac
   have bv:ZV (.agg [.int .i64 fk,.int .i64 ae,ar,ad])=fl.map fun f=>(f.fld 0).num.toNat:=congrArg _ O.els
   rw [bv]at c
   have V:=fun {q:IntKind} {d:Option AV}=>iQ (k:=1) (cP J) rfl (q:=q) (d:=d)
   have k3:(((i:Nat):Int)<((m.length:Nat):Int))=True:=eq_true aC
   have am:IntKind.i64.wrap ((i:Int)+1)=((i+1:Nat):Int):=by rw [IntWalk.i64_in _ aC];rfl
   refine CE @aKs @R @I @D @Q @f1 @k3 @aS P.lX P.iX @V al.iX @ah @bs ?_
   refine aL (fun j e=>∃ t n low o M,e=⟨95,none,23,t,[],⟨n,low,o⟩,.no⟩/\t.val 4=.ptr 1 0 0/\t.val 7=aW m/\t.val 8=.ptr 3 0 0/\t.val 10=.int .i64 (i:Nat)/\t.val 11=ad/\t.val 12=.int .i64 (j:Nat)/\o.get 1=some (aQ 0 [os,ts,us,is,no])/\o.get 3=some (aQ 0 [ns,fs,mm,cs,.sl 2 0 0 u.length (.is u.length)])/\o.get 2=some (aQ 0 (aI M))/\4<=n/\M.length=u.length/\aO M ((fl.drop j).map (fun f=>(f.fld 0).num.toNat)++jG xo (m.drop (i+1)))=MA/\j<=fl.length) (fun j=>fl.length-j) 0
    ⟨_,_,_,_,M,rfl,aM @R,aM @I,aM @A,aM @D,aG,eA,Q,y,E,N,B,c,Nat.zero_le _⟩ ?_
   clear R I A D Q E y N B c f1 Z X;rintro j _ ⟨t,n,low,o,M,rfl,R,I,A,D,ao,bl,Q,y,E,N,B,c,hj⟩;have f1:=dO (show 1<n by omega);have Z:=dO (show 2<n by omega);have X:=dO (show 3<n by omega)
   rcases Nat.lt_or_ge j fl.length with bg | bz
   ·obtain ⟨f,au,b1,ci,bu,bw,b7,az⟩:=bB (k:=3) (fun x h=>tk_fr.len h) bp O.2 bg
    have cb:=fun {d:Option AV}=>tk_fr.pf au (d:=d)
    have bc:=ac f b1;rw [bu,List.map_cons,List.cons_append]at c;obtain ⟨a,b,d,rfl,⟨ka,rfl⟩,hb,hd⟩:=au;rw [show ((AV.agg [.int .i64 ka,b,d]).fld 0).num=ka from rfl]at bc c;rw [G.els]at bc
    obtain ⟨z,rfl⟩:∃ z:Nat,ka=(z:Nat):=⟨ka.toNat,aC⟩
    rw [Int.toNat_natCast]at c;have e1:(0<=((z:Nat):Int))=True:=eq_true aC;have e2:(((z:Nat):Int)<((u.length:Nat):Int))=True:=eq_true aC;have br:=kJ (M:=M) (n:=z)
    have bq:z<(aI M).length:=by rw [cZ];omega
    refine UQ @aKs @A @ao @bl @E @y @Z @X O.lX O.iX @bw @b7 @az @e1 @e2 @br @bq @Int.toNat_natCast @Nat.mul_one @Nat.zero_add ?_;exact ⟨j+1,by show _-_<_-_;omega,_,_,_,_,M.set z true,rfl,aM @R,aM @I,aM @A,aM @D,aM @ao,aG,by rw [Tr.get_set_ne _ _ aC];exact Q,by rw [Tr.get_set_ne _ _ aC];exact y,Tr.get_set_same _ _ _,N,by rw [List.length_set];exact B,c,bg⟩
   ·obtain rfl:j=fl.length:=Nat.le_antisymm hj bz
    rw [List.drop_length]at c;have e1:(((fl.length:Nat):Int)<((fl.length:Nat):Int))=False:=eq_false (Int.lt_irrefl _);refine PJ @D @ao @bl O.lX @e1 @am ?_;exact ⟨i+1,by show _-_<_-_;omega,_,_,_,_,M,rfl,aM @R,aM @I,aM @A,aG,Q,y,E,N,B,c,w⟩
  ·obtain rfl:i=m.length:=Nat.le_antisymm hi F
   rw [List.drop_length]at c;change M=MA at c;subst c;have k3:(((m.length:Nat):Int)<((m.length:Nat):Int))=False:=eq_false (Int.lt_irrefl _);refine EW @I @D @k3 @aS P.lX ?_
   refine aL (fun i e=>∃ t n low o v,e=⟨95,none,23,t,[],⟨n,low,o⟩,.no⟩/\t.val 8=.ptr 3 0 0/\t.val 13=v/\t.val 14=.int .i64 (i:Nat)/\o.get 3=some (aQ 0 [ns,fs,mm,cs,.sl 2 0 0 u.length (.is u.length)])/\o.get 2=some (aQ 0 (aI M))/\4<=n/\AccI 4 v n o (aU (cB M i))/\i<=u.length) (fun i=>u.length-i) 0
    ⟨_,_,_,_,.nils,rfl,aM @A,aG,eA,y,E,N,.inl ⟨rfl,rfl⟩,Nat.zero_le _⟩ ?_
   clear R I A D Q E y N f1 Z X k3 hi F;rintro i _ ⟨t,n,low,o,v,rfl,A,ap,aq,y,E,N,hA,hi⟩;have Z:=dO (show 2<n by omega);have X:=dO (show 3<n by omega)
   rcases Nat.lt_or_ge i u.length with w | F
   ·have J:=List.getElem?_eq_getElem (show i<M.length by omega)
    have bf:(aI M)[i]?=some (.bool M[i]):=by rw [gS,J];rfl
    have C:cB M (i+1)=cB M i++(if decide (M[i]?=some true)=true then [i] else []):=lJ;rw [J]at C;have e1:(0<=((i:Nat):Int))=True:=eq_true aC;have e2:(((i:Nat):Int)<((u.length:Nat):Int))=True:=eq_true aC
    have bk:IntKind.i64.wrap ((i:Int)+1)=((i+1:Nat):Int):=by rw [IntWalk.i64_in _ aC];rfl
    have s1:∀ {a:AV},[AV.int .i64 0].set (0*1) a=[a]:=rfl;have cd:=mY M i;have cg:=hA.cell;generalize M[i]=b at *
    cases b with
    | true=>
      rw [decide_eq_true rfl,if_pos rfl]at C
      have bn:AccI 4 v (n+1) (o.set n (aQ 0 [.int .i64 (i:Nat)])) _:=hA.keep (Nat.le_succ n) fun id _ h2=>Tr.get_set_ne _ _ aC
      obtain ⟨v',n',cc,o',q1,q2,q3,q4,_⟩:=bn.app (low:=low) (by_:=8) dU (x:=.int .i64 (i:Nat)) rfl aC (by rw [aS];omega);refine PK @A @ap @aq @E @y @Z @X @eP @e1 @e2 @bf @bk @s1 @q1 @Int.toNat_natCast @Nat.mul_one @Nat.zero_add ?_;exact ⟨i+1,by show _-_<_-_;omega,_,_,_,_,v',rfl,aM @A,aG,aG,by rw [q4 3 aC,Tr.get_set_ne _ _ aC];exact y,by rw [q4 2 aC,Tr.get_set_ne _ _ aC];exact E,aC,by rw [C,gI];exact q2,w⟩
    | false=>
      rw [decide_eq_false (by simp),if_neg (by decide),List.append_nil]at C;refine tI @A @aq @E @y @Z @X @e1 @e2 @bf @bk @Int.toNat_natCast @Nat.mul_one @Nat.zero_add ?_;exact ⟨i+1,by show _-_<_-_;omega,_,_,_,_,v,rfl,aM @A,aM @ap,aG,y,E,N,by rw [C];exact hA,w⟩
   ·obtain rfl:i=u.length:=Nat.le_antisymm hi F
    have e1:(((u.length:Nat):Int)<((u.length:Nat):Int))=False:=eq_false (Int.lt_irrefl _);refine UN @A @ap @aq @y @X @eP @e1 ?_;rw [sN]
    exact hA.frz (fun x hx=>(dJ x hx).1) fun x hx=>(dJ x hx).2
end
section
variable {ns fs mm cs os ts us is no:AV}
theorem SK {ns cs:List AV} {b no:Int} {o:AV} (h:xV ns cs b no o=true) (a:(o.fld 0).num=2):0<=(o.fld 1).num/\(o.fld 1).num<ns.length/\((dZ ns (o.fld 1).num).fld 0).num=5:=by
 unfold xV kM at h;rw [a]at h;simp only [show ¬ (2:Int)=1 by omega,if_true,if_false,Bool.and_eq_true,decide_eq_true_eq,inR]at h;omega
theorem aEl {ns cs:List AV} {b no:Int} {o:AV} (h:xV ns cs b no o=true):∀ f∈(o.fld 3).els,0<=(f.fld 0).num/\(f.fld 0).num<ns.length:=fun f a=>by
 have:=tH ((BA h).2 f a);simp only [inR,Bool.and_eq_true,decide_eq_true_eq]at this;omega
theorem aKt {a no:Int} {v:AV} (h:jM a no v=true) (b:(v.fld 0).num=4):0<=(v.fld 1).num/\(v.fld 1).num<a:=by
 unfold jM at h;rw [b]at h;simp only [show ¬ (4:Int)=1 by omega,show ¬ (4:Int)=2 by omega,show ¬ (4:Int)=3 by omega,if_true,if_false,inR,Bool.and_eq_true,decide_eq_true_eq]at h;omega
theorem aSw {ns fs cs:List AV} {mm:Int} (h:eF ns fs mm cs=true) {n:AV} (c:n∈ns) (a:(n.fld 0).num=5):0<(n.fld 2).els.length:=by
 simp only [eF,Bool.and_eq_true,decide_eq_true_eq,List.all_eq_true]at h;have:=h.2.2.2.2.2.2.2.1 n c
 have b:bN 5=.fixed 1:=by unfold bN;rw [if_neg (by decide),if_pos (by decide)]
 simp only [gK,a,b,kD,Bool.and_eq_true,decide_eq_true_eq]at this;omega
theorem aKu (h:GW os ts us is no) (f:(jI (.agg [ns,fs,mm,cs])&&sW (.agg [ns,fs,mm,cs]) (dP os ts us is no))=true):GP ns.els fs.els/\∀ o∈os.els,OkO ns.els fs.els o:=by
 rw [Bool.and_eq_true]at f;obtain ⟨b,c⟩:=f;change eF ns.els fs.els mm.num cs.els=true at b;change nO ns.els cs.els fs.els.length os.els ts.els us.els is.els no.num=true at c;have r:=aSx b;refine ⟨r,fun o l=>?_⟩;simp only [nO,Bool.and_eq_true,decide_eq_true_eq,List.all_eq_true]at c;have d:=c.2.1 o l;refine ⟨h.a.good o l,fun v w q=>aKt (IJ d v w) q,fun u=>?_,aEl d⟩;obtain ⟨y,A,m⟩:=SK d u;refine ⟨y,A,?_⟩
 have k:(o.fld 1).num.toNat<ns.els.length:=by omega
 have e:ns.els.getD (o.fld 1).num.toNat .top=ns.els[(o.fld 1).num.toNat]:=by rw [List.getD_eq_getElem?_getD,List.getElem?_eq_getElem k];rfl
 rw [dZ,e]at m;rw [gD,List.length_map,e];exact aSw b (List.getElem_mem k) m
theorem GX {K:List Bool} {N:Nat}:cW K N 0=cB K N:=by
 rw [cW,cB,Nat.sub_zero,List.range_eq_range']
theorem uI {ns fs os:List AV} {l:List Nat} {y:Nat}:y∈IB ns fs os l++AW ns fs (jG os l)↔y∈HU ns fs os l:=by
 simp only [IB,HU,AW,jG,ZV,SP,SO,JX,List.mem_append,List.mem_flatMap,List.mem_map];constructor
 ·rintro (⟨x,a,h | h | ⟨f,b,h⟩⟩ | ⟨z,⟨x,a,f,b,rfl⟩,h⟩)
  ·exact ⟨x,a,.inr (.inl h)⟩
  ·exact ⟨x,a,.inr (.inr h)⟩
  ·exact ⟨x,a,.inl ⟨f,b,.inl h⟩⟩
  ·exact ⟨x,a,.inl ⟨f,b,.inr h⟩⟩
 ·rintro ⟨x,a,⟨f,b,h | h⟩ | h | h⟩
  ·exact .inl ⟨x,a,.inr (.inr ⟨f,b,h⟩)⟩
  ·exact .inr ⟨_,⟨x,a,f,b,rfl⟩,h⟩
  ·exact .inl ⟨x,a,.inl h⟩
  ·exact .inl ⟨x,a,.inr (.inl h)⟩
theorem xH {α β:Type} {f:α->List β} {m:Nat}:∀ {l:List α},(∀ x∈l,(f x).length<=m)->(l.flatMap f).length<=l.length*m
 | [],_=>Nat.zero_le _
 | x::l,h=>by
   rw [List.flatMap_cons,List.length_append,List.length_cons,Nat.succ_mul];have:=h x (List.mem_cons_self ..)
   have:=xH (l:=l) fun y a=>h y (List.mem_cons_of_mem _ a)
   omega
theorem aEm (I:dD (.agg [ns,fs,mm,cs])) (h:GW os ts us is no) (L:(jI (.agg [ns,fs,mm,cs])&&sW (.agg [ns,fs,mm,cs]) (dP os ts us is no))=true) {k:Nat} (H:k<ts.els.length):
 ∃ M:List Bool,M.length=ns.els.length/\ns.els.length<=300/\Abs.Returns Tryz.prog 58 [.agg [ns,fs,mm,cs],dP os ts us is no,.int .i64 (k:Nat)] (.fz (aI M) false)/\
   Abs.Returns Tryz.prog 23 [.agg [ns,fs,mm,cs],dP os ts us is no,.int .i64 (k:Nat)] (aW (cB M ns.els.length)):=by
 obtain ⟨r,D⟩:=aKu h L
 have B:∀ x∈gA os ts (dC os ts k),x<os.els.length:=fun x b=>by
  rw [gA,cB]at b;exact List.mem_range.1 (List.mem_filter.1 b).1
 have G:=wA os ts (dC os ts k);have P:=h.ol;have v:cW (kA os ts (dC os ts k)) os.els.length 0=gA os ts (dC os ts k):=GX
 have w:∀ x∈gA os ts (dC os ts k),os.els.getD x .top∈os.els:=fun x b=>by
  have:=B x b;rw [List.getD_eq_getElem?_getD,List.getElem?_eq_getElem this];exact List.getElem_mem this
 have C:∀ x∈jG os.els (gA os ts (dC os ts k)),x<ns.els.length:=fun x b=>by
  obtain ⟨y,a,b⟩:=List.mem_flatMap.1 b;obtain ⟨f,O,rfl⟩:=List.mem_map.1 b;have:=(D _ (w y a)).frm f O;omega
 have E:(jG os.els (gA os ts (dC os ts k))).length<=100000:=by
  have:=xH (f:=fun x=>ZV (os.els.getD x .top)) (m:=400) (l:=gA os ts (dC os ts k)) fun x b=>by
   rw [ZV,List.length_map];exact (D _ (w x b)).good.2.1
  show (List.flatMap _ _).length<=_;omega
 have q:∀ y∈IB ns.els fs.els os.els (gA os ts (dC os ts k))++AW ns.els fs.els (jG os.els (gA os ts (dC os ts k))),y<ns.els.length:=fun y a=>by
  rcases List.mem_append.1 a with a | a
  ·obtain ⟨x,b,a⟩:=List.mem_flatMap.1 a
   exact aKy r (D _ (w x b)) a
  ·obtain ⟨x,_,a⟩:=List.mem_flatMap.1 a
   exact WX r a
 have d:∀ n,∀ y∈mL ns.els fs.els n,y<ns.els.length:=fun n y a=>KC r (DI.2 a)
 obtain ⟨out,o⟩:=Run.ex (N:=ns.els.length) (fun n y a=>KC r a) _ (List.replicate ns.els.length false) (by simp) (Nat.le_refl _) _ q
 obtain ⟨u,c⟩:=Run.ex (N:=ns.els.length) d _ (List.replicate ns.els.length false) (by simp) (Nat.le_refl _) (HU ns.els fs.els os.els (gA os ts (dC os ts k))) fun y a=>q y (uI.2 a)
 have F:=aKz I r h D H rfl (by rw [v];exact o) (by rw [v];exact E);have J:=aEk I r h D H rfl c;rw [v]at F
 have Q:∀ x∈out,x<ns.els.length:=fun x b=>by
  obtain ⟨y,a,A⟩:=o.iff.1 b;exact A.lt (fun n y a=>KC r a) (q y a)
 have R:∀ x∈u,x<ns.els.length:=fun x b=>by
  obtain ⟨y,a,A⟩:=c.iff.1 b;exact A.lt d (q y (uI.2 a))
 refine ⟨_,?_,r.nl,F,?_⟩
 ·rw [bK,bK,List.length_replicate]
 ·have e:cB (aO (aO (List.replicate ns.els.length false) out) (jG os.els (gA os ts (dC os ts k)))) ns.els.length=cB (aO (aO (List.replicate ns.els.length false) u) (jG os.els (gA os ts (dC os ts k)))) ns.els.length:=by
   refine List.filter_congr fun x _=>?_
   rw [decide_eq_decide,HY o Q C,HY c R C];refine or_congr_left ⟨?_,?_⟩
   ·rintro ⟨y,a,A⟩;exact ⟨y,uI.1 a,WW.1 A⟩
   ·rintro ⟨y,a,A⟩;exact ⟨y,uI.2 a,WW.2 A⟩
  rw [e];exact J
end
section
variable {p os ts us is no:AV}
def OA (M:List Bool) (b:Bool):AV:=if b=true then aW (cB M M.length) else .nils
set_option maxHeartbeats 4000000 in
theorem OB (m:dD p) (l:WG os ts us is no) (n:Int) {M:List Bool} (y:M.length<=300) (v:qU p (dP os ts us is no) n=true->Abs.Returns Tryz.prog 58 [p,dP os ts us is no,.int .i64 n] (.fz (aI M) false)):
 Abs.Returns Tryz.prog 20 [p,dP os ts us is no,.int .i64 n] (.tuple [OA M (qU p (dP os ts us is no) n),iO (qU p (dP os ts us is no) n)]):=by
 have e:=(cL p m).1;have f:=l.und;obtain ⟨c0,o,q,r,u⟩:=l.cells;have h:SZ [p,dP os ts us is no,.int .i64 n]=some (.bool (qU p (dP os ts us is no) n)):=kP ⟨m,l.wd,n,rfl⟩;have w:=mY M M.length;have b:=IC (M:=M) aC;obtain ⟨_,ps,rfl,d,c⟩:=cL p m
 cases k:qU (.agg ps) (dP os ts us is no) n with
 | false=>
   rw [k]at h;refine aF (L:=[ent 31 SZ]) (elist_cons asked_ok.ent aE) aN (by kernel_rfl) Tryz.func20 Tryz.ntmps20 Tryz.results20 rfl rfl (aA e.und (aA f.und (aA aV aD))) (kU (by unfold OA;exact aA fB (aA aV aD))) ?_;simp +contextual +decide (maxSteps:=1000000) only [↓ wP,wQ,tf,Nat.reduceAdd,wS,c0,o,q,r,u,d,c,h,iO];rfl
 | true=>
   rw [k]at h;have a:=v k;refine aF (L:=[ent 31 SZ,eZ 58 [.agg ps,dP os ts us is no,.int .i64 n] (.fz (aI M) false),eZ 42 [.fz (aI M) false] (aW (cB M M.length))]) (elist_cons asked_ok.ent (elist_cons (bL a) (elist_cons (bL b) aE))) aN (by kernel_rfl) Tryz.func20 Tryz.ntmps20 Tryz.results20 rfl rfl (aA e.und (aA f.und (aA aV aD))) (kU (by unfold OA;exact aA (eD aC).und (aA aV aD))) ?_;clear v a b;simp +contextual +decide (maxSteps:=1000000) only [↓ wP,wQ,tf,Nat.reduceAdd,wS,c0,o,q,r,u,d,c,h,iO,eC,jP];rw [OA,if_pos rfl]
end
end
end Go.Proofs.YtdipddlhenoglaaGreat
