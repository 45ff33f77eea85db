/-
  What some tasks reach, and the isle of a task, by the reference.
-/
import Derived.Test.YtdipddlhenoglaaGreatYc
set_option linter.unusedVariables false
set_option linter.unusedSimpArgs false
namespace Go.Proofs.YtdipddlhenoglaaGreat
open Go.Abs Go Go.Abs.TryzF
noncomputable section
set_option maxRecDepth 10000
structure WLs (g:Nat->List Nat) (N:Nat) (rs:List Nat) (j:Nat) (R:List Nat):Prop where
 nd:R.Nodup
 lt:∀ x∈R,x<N/\∃ r∈rs,Abs.Way g r x
 ro:∀ r∈rs,r∈R
 jl:j<=R.length
 cl:∀ i n,i<j->R[i]?=some n->∀ y∈g n,y∈R
def xF (l:List Nat):List Nat:=l.foldl nO []
theorem RJ {l:List Nat} {i k:Nat} (h:l[i]?=some k):xF (l.take (i+1))=nO (xF (l.take i)) k:=by
 rw [List.take_add_one,h,xF,List.foldl_append];rfl
theorem qE:∀ (l R:List Nat),R.Nodup->(l.foldl nO R).Nodup/\∀ x,x∈l.foldl nO R↔x∈R∨x∈l
 | [],R,h=>⟨h,fun x=>by simp⟩
 | y::l,R,h=>by
   obtain ⟨a,b⟩:=qE l (nO R y) (JI h);refine ⟨a,fun x=>?_⟩;rw [List.foldl_cons,b,eQ,List.mem_cons,or_assoc]
theorem zK {l:List Nat} {x:Nat}:x∈xF l↔x∈l:=by
 rw [xF,(qE l [] List.nodup_nil).2];simp
theorem WLs.len {g:Nat->List Nat} {N j:Nat} {c R:List Nat} (h:WLs g N c j R):R.length<=N:=by
 have:=lU (cO R) (cO (List.range N)) (List.pairwise_map.2 (h.nd.imp fun h e=>h aD)) fun x a=>by
  obtain ⟨y,b,rfl⟩:=List.mem_map.1 a;exact List.mem_map.2 ⟨y,List.mem_range.2 (h.lt y b).1,rfl⟩
 simpa [cO] using this
theorem WLs.put {g:Nat->List Nat} {N j:Nat} {c R:List Nat} (h:WLs g N c j R) {x:Nat} (l:x<N/\∃ r∈c,Abs.Way g r x):WLs g N c j (nO R x) where
 nd:=JI h.nd
 lt:=fun y b=>by
  rcases eQ.1 b with b | rfl
  ·exact h.lt y b
  ·exact l
 ro:=fun r k=>eQ.2 (.inl (h.ro r k))
 jl:=Nat.le_trans h.jl putN_pre.length_le
 cl:=fun i n e f y b=>by
  have a:i<R.length:=Nat.lt_of_lt_of_le e h.jl;have d:=List.prefix_iff_getElem?.1 (putN_pre (R:=R) (x:=x)) i a;rw [f]at d;exact eQ.2 (.inl (h.cl i n e (by rw [List.getElem?_eq_getElem a];exact d.symm) y b))
theorem WLs.step {g:Nat->List Nat} {N j n:Nat} {e R:List Nat} (h:WLs g N e j R) (c:R[j]?=some n) (k:∀ y∈g n,y∈R):WLs g N e (j+1) R where
 nd:=h.nd
 lt:=h.lt
 ro:=h.ro
 jl:=(List.getElem?_eq_some_iff.1 c).1
 cl:=fun i m l b y d=>by
  rcases Nat.lt_or_ge i j with a | f
  ·exact h.cl i m a b y d
  ·obtain rfl:i=j:=by omega
   rw [c]at b;cases b;exact k y d
theorem WLs.fin {g:Nat->List Nat} {N:Nat} {b R:List Nat} (h:WLs g N b R.length R) {x:Nat}:x∈R↔∃ r∈b,Abs.Way g r x:=by
 constructor
 ·exact fun f=>(h.lt x f).2
 ·rintro ⟨r,d,e⟩
  refine WV (g:=g) (t:=b) (fun y a=>h.ro y a) (fun y a z k=>?_) ⟨r,d,e⟩;obtain ⟨i,c,rfl⟩:=List.mem_iff_getElem.1 a;exact h.cl i _ c (List.getElem?_eq_getElem c) z k
theorem oX {os ts:AV} {k j:Nat} (h:j∈cE os ts k):j<ts.els.length:=List.mem_range.1 (List.mem_filter.1 h).1
section
variable {os ts us is no:AV}
def cC (os ts:AV) (l:List Nat):List Nat:=sI (jH os ts l) os.els.length
theorem mO (os ts:AV) (l:List Nat):(cC os ts l).length<=os.els.length:=HM _ _
theorem mP (h:GW os ts us is no) {l:List Nat} (c:∀ k∈l,k<ts.els.length) {x:Nat}:x∈cC os ts l↔∃ k∈l,x∈cR os.els (aZ ts k):=by
 rw [cC,sI,List.mem_filter,List.mem_range,decide_eq_true_iff,NK h c];constructor
 ·exact fun h=>h.2
 ·rintro ⟨k,b,a⟩
  exact ⟨(bV.1 a).1,k,b,a⟩
theorem RK (h:GW os ts us is no) {l R:List Nat} (d:∀ k∈l,k<ts.els.length) (c:WLs (gY os.els) os.els.length (l.map (aZ ts)) R.length R):vS R os.els.length=cC os ts l:=by
 refine List.filter_congr fun x f=>?_
 rw [decide_eq_decide,NK h d,c.fin];constructor
 ·rintro ⟨r,e,b⟩
  obtain ⟨k,a,rfl⟩:=List.mem_map.1 e;exact ⟨k,a,bV.2 ⟨List.mem_range.1 f,b⟩⟩
 ·rintro ⟨k,a,b⟩
  exact ⟨_,List.mem_map.2 ⟨k,a,rfl⟩,(bV.1 b).2⟩
set_option maxHeartbeats 8000000 in
theorem RN (h:GW os ts us is no) {l:List Nat} (hl:∀ k∈l,k<ts.els.length) (bx:l.length<=120) {k0:Nat} (bg:k0∈l):Abs.Returns Tryz.prog 41 [fS os ts us is no,aQ l] (aQ (cC os ts l)):=by
 have br:=h.g.und;obtain ⟨c0,c1,c2,c3,c4⟩:=h.g.cells;have V:=dU (l:=l) aD
 have bq:Sl ts ts.els:=by
  obtain ⟨xs,O,_⟩:=h.g.ts;rw [O.els];exact O
 have bp:Sl os os.els:=by
  obtain ⟨xs,O,_⟩:=h.g.os;rw [O.els];exact O
 refine bM (L:=[ent 88 sJ,dC 65 (DH 1),dC 66 pB]) (elist_cons qvalV_ok.ent (elist_cons WM (elist_cons JO aE))) (hRc 1) (by kernel_rfl) Tryz.func41 Tryz.ntmps41 Tryz.results41 rfl rfl (aA br.und (aA (eR aD).und aC)) ?_;have ba:(aQ l).isCell=true:=cD;have b0:=(eR (l:=l) aD).mono (Nat.zero_le 1);refine LB @c0 @c1 @c2 @c3 @c4 ?_
 refine aM (fun i e=>∃ t n low o v,e=⟨65,none,41,t,[],⟨n,low,o⟩,.no⟩/\t.val 1=aQ l/\t.val 2=.ptr 0 0 0/\t.val 5=v/\t.val 6=.int .i64 (i:Nat)/\o.get 0=some (aR 0 [os,ts,us,is,no])/\1<=n/\AccI 1 v n o (aP (xF ((l.map (aZ ts)).take i)))/\i<=l.length) (fun i=>l.length-i) 0
  ⟨_,_,_,_,.nils,rfl,aG,aG,aG,eT,aG,Nat.le_refl _,.inl ⟨rfl,rfl⟩,Nat.zero_le _⟩ ?_
 rintro i _ ⟨t,n,low,o,v,rfl,t1,C,D,t6,A,B,w,hi⟩;have S:=dQ (show 0<n by omega)
 have bl:(xF ((l.map (aZ ts)).take i)).length<=120:=by
  have h1:=(qE ((l.map (aZ ts)).take i) [] List.nodup_nil).1
  have:=lU (cO (xF ((l.map (aZ ts)).take i))) (cO ((l.map (aZ ts)).take i)) (List.pairwise_map.2 (h1.imp fun h e=>h aD)) fun x Z=>by
   obtain ⟨y,hy,rfl⟩:=List.mem_map.1 Z;exact List.mem_map.2 ⟨y,zK.1 hy,rfl⟩
  simp only [cO,List.length_map,List.length_take]at this;omega
 rcases Nat.lt_or_ge i l.length with f | J
 ·have aj:=List.getElem?_eq_getElem f
  have bh:=hl _ (List.getElem_mem f);have p:=RJ (l:=l.map (aZ ts)) (i:=i) (k:=aZ ts l[i]) (by rw [List.getElem?_map,aj];rfl);generalize l[i]=k at *;obtain ⟨q1,q2⟩:=h.task bh;obtain ⟨v',⟨n1,P,o1⟩,⟨p1,p2,p3,p4⟩,p5⟩:=CF (s:=⟨n,low,o⟩) (lo:=1) w B aD (aZ ts k);have X:orcL [ent 88 sJ,dC 65 (DH 1),dC 66 pB] 65 [v,.int .i64 (aZ ts k:Nat)] ⟨n,low,o⟩=_:=p5 [dC 66 pB]
  have T:=fun {q:IntKind} {d:Option AV}=>gU (k:=1) q2 rfl (q:=q) (d:=d)
  have bd:=fun {q:IntKind} {d:Option AV}=>gU (k:=1) (cP aj) rfl (q:=q) (d:=d)
  have k3:(((i:Nat):Int)<((l.length:Nat):Int))=True:=eq_true aD
  have bs:IntKind.i64.wrap ((i:Int)+1)=((i+1:Nat):Int):=by rw [IntWalk.i64_in _ aD];rfl
  have hu:=AccI.und w;have aw:n<=n1:=p2;have ks:kM (sE n 1) ⟨n,low,o⟩ ⟨n1,P,o1⟩:=pD (Nat.min_le_right _ _) B p2 p3;simp +contextual +decide (maxSteps:=1000000) only [↓ wP,wQ,tf,Nat.reduceAdd,wS,aSu,uK,mS,t1,C,D,t6,A,S,k3,aV,V.len,V.idx,bd,bq.idx,T,X,hu,aw,ks,bs];exact ⟨i+1,by show _-_<_-_;omega,_,_,_,_,v',rfl,aN @t1,aN @C,aG,aG,(p3 0 aD).trans A,Nat.le_trans B p2,by rw [p];exact p1,f⟩
 ·obtain rfl:i=l.length:=Nat.le_antisymm hi J
  have k3:(((l.length:Nat):Int)<((l.length:Nat):Int))=False:=eq_false (Int.lt_irrefl _);rw [List.take_of_length_le (by rw [List.length_map];exact Nat.le_refl _)]at w bl;refine LB @t1 @t6 @k3 @aV V.lX ?_
  have u:WLs (gY os.els) os.els.length (l.map (aZ ts)) 0 (xF (l.map (aZ ts))):=
   {nd:=(qE _ [] List.nodup_nil).1,lt:=fun x Z=>by
        have Z:=zK.1 Z;obtain ⟨k,hk,e⟩:=List.mem_map.1 Z
        exact ⟨e ▸ (h.task (hl k hk)).1,x,Z,.refl _⟩,ro:=fun r hr=>zK.2 hr,jl:=Nat.zero_le _,cl:=fun i n hi=>(Nat.not_lt_zero _ hi).elim}
  refine aM (fun j e=>∃ t n low o v R,e=⟨65,none,41,t,[],⟨n,low,o⟩,.no⟩/\t.val 2=.ptr 0 0 0/\t.val 5=v/\t.val 7=.int .i64 (j:Nat)/\o.get 0=some (aR 0 [os,ts,us,is,no])/\1<=n/\AccI 1 v n o (aP R)/\WLs (gY os.els) os.els.length (l.map (aZ ts)) j R) (fun j=>os.els.length-j) 0
   ⟨_,_,_,_,v,_,rfl,aN @C,aN @D,eT,A,B,w,u⟩ ?_
  clear t1 C D t6 A B w S hi J u;rintro j _ ⟨t,n,low,o,v,R,rfl,C,D,Q,A,B,w,u⟩;have S:=dQ (show 0<n by omega);have bw:=u.len;have bz:=h.ol;have bf:=u.jl;have I:=w;have hu:=AccI.und w
  rcases w with ⟨e,_⟩ | ⟨h0,bu,g2,c2,rfl,_,ag,an,c⟩
  ·have:=u.ro _ (List.mem_map.2 ⟨k0,bg,rfl⟩)
   rw [List.map_eq_nil_iff.1 e]at this;cases this
  rw [aV]at D I;have f3:=dQ c
  rcases Nat.lt_or_ge j R.length with f | J
  ·have ab:=List.getElem?_eq_getElem f
   have bi:=List.getElem_mem f;generalize R[j]=m at *;obtain ⟨ao,r0,bn,bj⟩:=u.lt m bi;obtain ⟨xs,O,ad⟩:=h.g.os;have E:=O.els;have ah:=h.a.good;have U:=h.a.refs;rw [E]at ao ah;obtain ⟨x,aa,hm,bb,_,T,hw,ba⟩:=bI (k:=4) (fun x h=>tk_ob.len h) ad (show xs.length<=9223372036854775807 by have:=O.2;omega) ao
   have bk:=fun {d:Option AV}=>tk_ob.pf aa (d:=d)
   have al:=ah x hm;have bm:sJ [x]=some (bJ (cW x)):=cI al;have be:=cP ab;have k1:(((j:Nat):Int)<((R.length:Nat):Int))=True:=eq_true aD;have k2:(0<=((j:Nat):Int))=True:=eq_true aD
   have bt:IntKind.i64.wrap ((j:Int)+1)=((j+1:Nat):Int):=by rw [IntWalk.i64_in _ aD];rfl
   refine EP @aSv @C @D @Q @A @S @f3 @ag @be @k1 @k2 O.iX @T @bk @bm @Int.toNat_natCast @Nat.mul_one @Nat.zero_add ?_;have b1:(cW x).length<=100000:=al.2.2;have ay:∀ v∈cW x,nP v:=kX (pH aa);have G:Sl (bJ (cW x)) (cW x):=dX aD;have bo:=U x (by rw [E];exact hm)
   have ak:gY os.els m=jZ (cW x):=by rw [gY,E,List.getD_eq_getElem?_getD,bb];rfl
   generalize cW x=Y at *
   refine aM (fun k e=>∃ t n low o v H,e=⟨65,none,41,t,[],⟨n,low,o⟩,.no⟩/\t.val 2=.ptr 0 0 0/\t.val 5=v/\t.val 7=.int .i64 (j:Nat)/\t.val 8=bJ Y/\t.val 9=.int .i64 (k:Nat)/\o.get 0=some (aR 0 [os,ts,us,is,no])/\1<=n/\AccI 1 v n o (aP H)/\WLs (gY os.els) os.els.length (l.map (aZ ts)) j H/\R <+: H/\(∀ y∈jZ (Y.take k),y∈H)/\k<=Y.length) (fun k=>Y.length-k) 0
    ⟨_,_,_,_,_,R,rfl,aN @C,aN @D,aN @Q,aG,eT,A,B,I,u,List.prefix_rfl,fun y hy=>(nomatch hy),Nat.zero_le _⟩ ?_
   clear C D Q A B I u S f3 ag c hu an;rintro k _ ⟨t,n,low,o,v,H,rfl,C,D,Q,t8,t9,A,B,w,u,F,M,hk⟩;have S:=dQ (show 0<n by omega);have hu:=AccI.und w;have bv:=u.len
   rcases Nat.lt_or_ge k Y.length with c | ai
   ·obtain ⟨y,ax,ap,bc,_,am,av,ae⟩:=bI (k:=2) (fun x h=>tk_val.len h) ay (show Y.length<=9223372036854775807 by omega) c
    have p:=DE bc;have aq:=bo y ap;obtain ⟨a,b,rfl,⟨ka,rfl⟩,⟨kb,rfl⟩⟩:=ax;rw [show ((AV.agg [.int .i64 ka,.int .i64 kb]).fld 0).num=ka from rfl,show ((AV.agg [.int .i64 ka,.int .i64 kb]).fld 1).num=kb from rfl]at p aq;by_cases h5:ka=5
    ·obtain ⟨r1,r2⟩:=aq h5
     subst h5;rw [if_pos rfl]at p
     obtain ⟨b,rfl⟩:∃ b:Nat,kb=(b:Nat):=⟨kb.toNat,aD⟩
     rw [Int.toNat_natCast]at p
     have hb:b∈gY os.els m:=by
      rw [ak];exact List.mem_filterMap.2 ⟨_,ap,by simp [AV.fld,AV.num]⟩
     have az:b<os.els.length/\∃ r∈l.map (aZ ts),Abs.Way (gY os.els) r b:=⟨h.a.lt b hb,r0,bn,bj.trans (.step hb (.refl _))⟩
     obtain ⟨v',⟨n1,P,o1⟩,⟨p1,p2,p3,p4⟩,p5⟩:=CF (s:=⟨n,low,o⟩) (lo:=1) w B aD b;have X:orcL [ent 88 sJ,dC 65 (DH 1),dC 66 pB] 65 [v,.int .i64 (b:Nat)] ⟨n,low,o⟩=_:=p5 [dC 66 pB];have aw:n<=n1:=p2;refine ap9 @D @t8 @t9 G.lX G.iX @am @av @ae @X ?_;refine ⟨k+1,by show _-_<_-_;omega,_,_,_,_,v',nO H b,rfl,aN @C,aG,aN @Q,aN @t8,aG,(p3 0 aD).trans A,Nat.le_trans B p2,p1,u.put az,F.trans putN_pre,?_,c⟩;intro z hz;rw [p]at hz
     rcases List.mem_append.1 hz with hz | hz
     ·exact eQ.2 (.inl (M z hz))
     ·exact eQ.2 (.inr (List.mem_singleton.1 hz))
    ·rw [if_neg h5,List.append_nil]at p
     refine XL @t8 @t9 G.lX G.iX @am @av @ae @h5 ?_;exact ⟨k+1,by show _-_<_-_;omega,_,_,_,_,v,H,rfl,aN @C,aN @D,aN @Q,aN @t8,aG,A,B,w,u,F,by rw [p];exact M,c⟩
   ·obtain rfl:k=Y.length:=Nat.le_antisymm hk ai
    rw [List.take_length]at M;refine XK @Q @t8 @t9 @bG G.lX @bt ?_
    have ac:H[j]?=some m:=by
     have:=List.prefix_iff_getElem?.1 F j f;rw [<-List.getElem?_eq_getElem f,ab]at this;exact this
    exact ⟨j+1,by show _-_<_-_;omega,_,_,_,_,v,H,rfl,aN @C,aN @D,aG,A,B,w,u.step ac (by rw [ak];exact M)⟩
  ·obtain rfl:j=R.length:=Nat.le_antisymm bf J
   have af:=RK h hl u;have ar:=JN (RowN.acc (low:=low) I) aD (N:=os.els.length) aD [];rw [af]at ar;have au:orcL [ent 88 sJ,dC 65 (DH 1),dC 66 pB] 66 [.sl bu g2 0 R.length c2,.int .i64 (os.els.length:Nat)] ⟨n,low,o⟩=_:=ar;have k1:(((R.length:Nat):Int)<((R.length:Nat):Int))=False:=eq_false aD;refine XL @C @D @Q @k1 @A @S bp.lX @au ?_;exact .und _ (eR (by have:=mO os ts l;omega)).und
abbrev CE (os ts us is no:AV):List AV->Option AV:=sB (fun w a=>w=fS os ts us is no/\∃ l:List Nat,a=aQ l/\(∀ k∈l,k<ts.els.length)/\l.length<=120/\∃ k,k∈l) fun _ a=>aQ (cC os ts (sK a))
theorem RO (h:GW os ts us is no):Abs.Ok Tryz.prog 41 (CE os ts us is no):=ok2 fun w a ⟨b,l,c,d,e,k,f⟩=>by
 subst b;subst c;rw [fR aD];exact RN h d e f
theorem RP {k:Nat} (a:k<ts.els.length):k∈cE os ts k:=List.mem_filter.2 ⟨List.mem_range.2 a,decide_eq_true rfl⟩
theorem YY (h:GW os ts us is no) {k:Nat} (q:k<ts.els.length):Abs.Returns Tryz.prog 51 [fS os ts us is no,.int .i64 (k:Nat)] (aQ (cE os ts k)):=by
 have b:=h.g.und;obtain ⟨c0,d,e,f,m⟩:=h.g.cells
 have o:(zM os ts).isCell=true:=by unfold zM;split<;>rfl
 have p:=pA os ts k;have v:=h.ol;have u:=h.l
 have a:JK os ts us is no [.agg [os,ts,us,is,no],zM os ts,.int .i64 (k:Nat)]=some (aQ (cE os ts k)):=by
  rw [JK,kI (c:=.int .i64 (k:Nat)) ⟨rfl,rfl,k,q,rfl⟩];rfl
 refine aF (L:=[jG 38 [fS os ts us is no] (zM os ts),ent 39 (JK os ts us is no)]) (elist_cons (bX (aKn h)) (elist_cons (ZC h).ent aE)) (fun r=>(bif Nat.beq r 1 then [2,4] else [],[])) (by kernel_rfl) Tryz.func51 Tryz.ntmps51 Tryz.results51 rfl rfl (aA b.und (aA aS aC)) (eR aD).und ?_;exact az8 @c0 @d @e @f @m @fU @yF @a
end
end
end Go.Proofs.YtdipddlhenoglaaGreat
