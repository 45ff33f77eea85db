/-
  The objects that some tasks reach, marked, by the program.
-/
import Derived.Test.YtdipddlhenoglaaGreatZq
set_option linter.unusedVariables false
set_option linter.unusedSimpArgs false
namespace Go.Abs
def aO (M:List Bool) (xs:List Nat):List Bool:=xs.foldl (fun M x=>M.set x true) M
theorem bK:∀ (xs:List Nat) (M:List Bool),(aO M xs).length=M.length
 | [],_=>rfl
 | x::xs,M=>by
   show (aO (M.set x true) xs).length=_;rw [bK xs,List.length_set]
theorem DL {M:List Bool} {xs:List Nat} {q x:Nat} (h:xs[q]?=some x):aO M (xs.take (q+1))=(aO M (xs.take q)).set x true:=by
 rw [List.take_add_one,h,aO,List.foldl_append];rfl
theorem xI:∀ (xs:List Nat) (M:List Bool) (x:Nat),(aO M xs)[x]?=some true↔M[x]?=some true∨(x∈xs/\x<M.length)
 | [],M,x=>by simp [aO]
 | y::xs,M,x=>by
   show (aO (M.set y true) xs)[x]?=_↔_;rw [xI xs,List.length_set,List.getElem?_set,List.mem_cons];by_cases a:y=x
   ·subst a
    by_cases b:y<M.length
    ·simp [b]
    ·have:M[y]?=none:=List.getElem?_eq_none aC
     simp [b]
   ·have:x≠y:=fun e=>a e.symm
    simp [a,this]
end Go.Abs
namespace Go.Proofs.YtdipddlhenoglaaGreat
open Go.Abs Go Go.Abs.TryzF
noncomputable section
set_option maxRecDepth 10000
section
variable {os ts us is no:AV}
def kA (os ts:AV) (l:List Nat):List Bool:=l.foldl (fun M k=>aO M (gE os ts k)) (List.replicate os.els.length false)
theorem DM {os ts:AV}:∀ (l:List Nat) (M:List Bool),(l.foldl (fun M k=>aO M (gE os ts k)) M).length=M.length
 | [],_=>rfl
 | k::l,M=>(DM l _).trans (bK _ _)
theorem zK (l:List Nat):(kA os ts l).length=os.els.length:=(DM l _).trans (List.length_replicate ..)
theorem SQ {l:List Nat} {i k:Nat} (h:l[i]?=some k):kA os ts (l.take (i+1))=aO (kA os ts (l.take i)) (gE os ts k):=by
 rw [List.take_add_one,h,kA,List.foldl_append];rfl
structure KI (cw:List AV) (c:ACap) (M:List Bool) (n:Nat) (u:Nat->Option AObj) (ids:List Nat):Prop where
 g0:u 0=some (aQ 0 cw)
 g1:u 1=some (aQ 0 (aI M))
 g2:u 2=some (aQ 0 [.sl 1 0 0 M.length c])
 hn:3<=n
 nd:ids.Nodup
 dd:∀ d∈ids,2<d/\d<n/\u d=some (.defs (some []))
def hKp:dG:=fun r=>if r=5 then ([6],[]) else ([],[])
theorem aWd:hKp 5=([6],[]):=rfl
set_option maxHeartbeats 8000000 in
theorem aLa (h:GW os ts us is no) {l:List Nat} (hl:∀ k∈l,k<ts.els.length) (aa:l.length<=1000) (h0:0<os.els.length):Abs.Returns Tryz.prog 43 [dP os ts us is no,aW l] (.fz (aI (kA os ts l)) false):=by
 have ap:=h.g.und;obtain ⟨c0,c1,c2,c3,c4⟩:=h.g.cells;have ac:=fZ aa;have aw:(aW l).isCell=true:=cY
 have ad:Sl os os.els:=by
  obtain ⟨xs,A,_⟩:=h.g.os;rw [A.els];exact A
 have ao:Sl ts ts.els:=by
  obtain ⟨xs,A,_⟩:=h.g.ts;rw [A.els];exact A
 refine BQ KK hKp (by kernel_rfl) Tryz.func43 Tryz.ntmps43 Tryz.results43 rfl rfl (aA ap.und (aA (eD aa).und aD)) ?_;have ax:=h.ol;have hm:ts.els.length<=120:=Nat.le_trans h.l h.ol;simp +contextual +decide (maxSteps:=1000000) only [↓ wP,wQ,tf,Nat.reduceAdd,wS,c0,c1,c2,c3,c4,ad.len,ac.len,aS,lK (n:=os.els.length) (show os.els.length<=1000 by omega),XH,NQ]
 refine aL (fun i e=>∃ t n low ob o,e=⟨32,none,43,t,o.map .collected,⟨n,low,ob⟩,.no⟩/\t.val 2=.ptr 0 0 0/\t.val 5=.ptr 2 0 0/\t.val 13=aW l/\t.val 14=.int .i64 (l.length:Nat)/\t.val 15=.int .i64 (i:Nat)/\KI [os,ts,us,is,no] (.is os.els.length) (kA os ts (l.take i)) n ob.get o/\i<=l.length) (fun i=>l.length-i) 0
  ⟨_,_,_,_,[],rfl,aG,aG,aG,aG,eA,⟨?_,?_,?_,Nat.le_refl _,List.nodup_nil,fun _ h=>nomatch h⟩,Nat.zero_le _⟩ ?_
 ·exact qO
 ·rw [show kA os ts (l.take 0)=List.replicate os.els.length false from rfl];exact qO
 ·rw [zK];exact aG
 rintro i _ ⟨t,n,low,ob,o,rfl,t2,t5,ae,I,J,hI,hi⟩;have af:=hI;obtain ⟨g0,g1,g2,hn,ab,r⟩:=af;have f0:=dO (show 0<n by omega);have f1:=dO (show 1<n by omega);have f2:=dO (show 2<n by omega);have v:=zK (os:=os) (ts:=ts) (l.take i)
 rcases Nat.lt_or_ge i l.length with F | ai
 ·have U:=List.getElem?_eq_getElem F
  have X:=hl _ (List.getElem_mem F);have am:=SQ (os:=os) (ts:=ts) U;generalize l[i]=k at *;obtain ⟨O,q2⟩:=h.task X;obtain ⟨r1,r2,r3⟩:=sP h X
  have al:=fun {q:IntKind} {d:Option AV}=>iQ (k:=1) q2 rfl (q:=q) (d:=d)
  have aj:=fun {q:IntKind} {d:Option AV}=>iQ (k:=1) (cP U) rfl (q:=q) (d:=d)
  have k3:(((i:Nat):Int)<((l.length:Nat):Int))=True:=eq_true aC
  have an:=fun {σ:Sto}=>qS (w:=dP os ts us is no) h.g.wd (bR ts k) σ
  have ak:=wE h.g.wd ad h.a O r1;refine tI @aWd @t2 @ae @I @J @g0 @f0 @k3 ao.iX @al ac.iX @aj @an ?_;generalize kA os ts (l.take i)=M at *
  refine sQ (xs:=(cC (cE (gE os ts k))).map fun x=>[x]) (fun q Y u=>(∀ id,Y id->n<=id)/\n<=u.n/\(∀ id,id<n->id≠1->u.get id=ob.get id)/\u.get 1=some (aQ 0 (aI (aO M ((gE os ts k).take q))))) (fun _ _ _=>False)
   (by simp +decide only [↓ nR];exact ak) ?_ (fun _ _ _ _ _ _ h=>h) (fun _ _ _ h=>h.elim) ⟨fun _ h=>h.elim,Nat.le_refl _,fun id V _=>Sto.get_mk V,(Sto.get_mk (show 1<n by omega)).trans g1⟩ ?_ ?_ (fun _ _ _ _ _ h=>h.elim) (fun _ _ _ _ _ _ h=>h.elim)
  ·rintro q Y Y' u u' A ⟨L,j2,N,C⟩
   have hk:∀ id,id<n->u'.get id=u.get id:=fun id V=>A.2.2.2 id aC (fun m=>by have:=L id m;omega) (by show ¬ id=n+1;omega)
   exact ⟨fun id m=>(A.2.1 id m).elim (L id) fun h=>Nat.le_trans j2 h.1,Nat.le_trans j2 A.2.2.1,fun id O q2=>(hk id O).trans (N id O q2),(hk _ aC).trans C⟩
  ·rintro q xr ar Y ⟨c,lu,ou⟩ H av ah P f D ⟨L,j2,N,C⟩
   obtain ⟨x,B,rfl⟩:=KL ar;have ay:x<os.els.length:=(eJ.1 ((r2 x).1 (List.mem_of_getElem? B))).1;have G:n+1<c:=H;have Q:¬ Y (n+1):=ah;have v1:=dO (show 1<c by omega);have v2:=dO (show 2<c by omega);have vd:=dO (show n<c by omega);have vl:=dO G
   have vv:n+1≠1/\1≠n+1/\n+1≠2/\2≠n+1/\n≠1/\1≠n/\n≠2/\2≠n:=by omega
   have w2:=(N 2 aC aC).trans g2;rw [Sto.get_mk (show 2<c by omega)]at w2;rw [Sto.get_mk (show 1<c by omega)]at C;rw [show ∀ low,(Sto.mk n low ob).n=n from fun _=>rfl]at f D;rw [Sto.get_mk (show n<c by omega)]at f;rw [Sto.get_mk G]at D;have y1:(0<=((x:Nat):Int))=True:=eq_true aC;have y2:(((x:Nat):Int)<((M.length:Nat):Int))=True:=eq_true aC
   have y7:x<(aI (aO M ((gE os ts k).take q))).length:=by rw [cZ,bK];omega
   have y8:=kJ (M:=aO M ((gE os ts k).take q)) (n:=x);have y9:=DL (M:=M) B;refine ⟨_,rfl,?_⟩;simp +contextual +decide (maxSteps:=1000000) only [↓ wP,wQ,tf,wS,D,f,t5,w2,C,v1,v2,vl,vd,vv,jO,iS,Env.setS,NQ,y1,y2,y7,y8,Int.toNat_natCast,Nat.mul_one,Nat.zero_add];refine ⟨⟨Nat.le_refl c,fun id m=>?_⟩,L,j2,fun id h1 h2=>?_,by rw [y9]⟩
   ·have:=L id m
    rw [Sto.get_mk (P id m),Sto.get_mk (P id m),Tr.get_set_ne _ _ aC,Tr.get_set_ne _ _ (fun e=>Q (by rw [<-e];exact m))]
   ·rw [<-N id h1 h2,Sto.get_mk (show id<c by omega),Sto.get_mk (show id<c by omega),Tr.get_set_ne _ _ h2,Tr.get_set_ne _ _ aC]
  ·rintro Y ⟨c,lu,ou⟩ H au f ⟨L,j2,N,C⟩
   have G:n+1<c:=H
   have E:∀ id,id<n->id≠1->ou.get id=ob.get id:=fun id O q2=>by
    rw [<-N id O q2,Sto.get_mk (show id<c by omega)]
   rw [Sto.get_mk (show 1<c by omega)]at C
   have T:ou.get n=some (.defs (some [])):=by rw [<-f];exact (Sto.get_mk (show n<c by omega)).symm
   have Z:((cC (cE (gE os ts k))).map fun x=>[x]).length=(gE os ts k).length:=by simp [cC,cE]
   rw [Z,List.take_length]at C
   have aq:IntKind.i64.wrap ((i:Int)+1)=((i+1:Nat):Int):=by rw [IntWalk.i64_in _ aC];rfl
   refine JA @J @aq ?_;refine ⟨i+1,by show _-_<_-_;omega,_,_,_,_,n::o,rfl,aM @t2,aM @t5,aM @ae,aM @I,aG,?_,F⟩;rw [am];refine ⟨(E 0 aC aC).trans g0,C,?_,aC,List.nodup_cons.2 ⟨fun hm=>by have:=(r _ hm).2.1;omega,ab⟩,fun d R=>?_⟩
   ·rw [bK];exact (E 2 aC aC).trans g2
   ·rcases List.mem_cons.1 R with rfl | R
    ·exact ⟨aC,aC,T⟩
    ·obtain ⟨p0,p1,p2⟩:=r d R
     exact ⟨p0,aC,(E d p1 aC).trans p2⟩
 ·obtain rfl:i=l.length:=Nat.le_antisymm hi ai
  have k3:(((l.length:Nat):Int)<((l.length:Nat):Int))=False:=eq_false (Int.lt_irrefl _);rw [List.take_length]at hI v g1 g2;refine PJ @t5 @I @J @k3 @g2 @f2 ?_
  obtain ⟨S,s1,s2,s3⟩:=sO o ⟨n,low,ob⟩ ab fun d R=>by
   obtain ⟨p0,p1,p2⟩:=r d R;rw [Sto.get_mk p1];exact p2
  have ag:S.get 1=some (aQ 0 (aI (kA os ts l))):=by
   rw [s3 1 fun hm=>by have:=(r 1 hm).1;omega,Sto.get_mk (show 1<n by omega)];exact g1
  refine ⟨rfl,S,s1,[.sl 1 0 0 (kA os ts l).length (.is os.els.length)],by exact XW,?_⟩;rw [v]
  refine rC (g:=0) (cs:=aI (kA os ts l)) (Nat.zero_le _) ag (by rw [cZ,v]) (by rw [cZ,v];omega) (fun x B=>?_) fun j x y B m=>?_
  ·obtain ⟨b,_,rfl⟩:=List.mem_map.1 B;rfl
  ·rw [Nat.zero_add]at B
   rw [B]at m;cases m;obtain ⟨b,_,rfl⟩:=List.mem_map.1 (List.mem_of_getElem? B);exact .und _ aJ
theorem aEr (h:GW os ts us is no) {l:List Nat} (a:∀ k∈l,k<ts.els.length) {x:Nat}:(kA os ts l)[x]?=some true↔∃ k∈l,x∈dK os.els (bR ts k):=by
 have b:∀ (l:List Nat) (M:List Bool),(∀ k∈l,k<ts.els.length)->M.length=os.els.length->((l.foldl (fun M k=>aO M (gE os ts k)) M)[x]?=some true↔M[x]?=some true∨∃ k∈l,x∈dK os.els (bR ts k)):=by
  intro l
  induction l with
  | nil=>intro M _ _;simp
  | cons k l f=>
    intro M a c;obtain ⟨_,r2,_⟩:=sP h (a k (List.mem_cons_self ..));rw [List.foldl_cons,f _ (fun j d=>a j (List.mem_cons_of_mem _ d)) ((bK _ _).trans c),xI,r2 x,c]
    have e:x∈dK os.els (bR ts k)->x<os.els.length:=fun h=>(eJ.1 h).1
    simp only [List.mem_cons,exists_eq_or_imp];constructor
    ·rintro ((h | ⟨h,_⟩) | h)
     ·exact .inl h
     ·exact .inr (.inl h)
     ·exact .inr (.inr h)
    ·rintro (h | h | h)
     ·exact .inl (.inl h)
     ·exact .inl (.inr ⟨h,e h⟩)
     ·exact .inr h
 rw [kA,b l _ a (List.length_replicate ..)];constructor
 ·rintro (h | h)
  ·rw [List.getElem?_replicate]at h
   split at h<;>cases h
  ·exact h
 ·exact .inr
def cB (M:List Bool) (n:Nat):List Nat:=(List.range n).filter fun i=>decide (M[i]?=some true)
theorem mY (M:List Bool) (n:Nat):(cB M n).length<=n:=by
 have:=List.length_filter_le (fun i=>decide (M[i]?=some true)) (List.range n);rw [List.length_range]at this;exact this
set_option maxHeartbeats 4000000 in
theorem IC {M:List Bool} (S:M.length<=1000):Abs.Returns Tryz.prog 42 [.fz (aI M) false] (aW (cB M M.length)):=by
 have f:Sl (.fz (aI M) false) (aI M):=⟨.inr ⟨_,rfl⟩,by rw [cZ];omega⟩
 have N:UnderE 0 (.fz (aI M) false):=pD f fun x u=>by obtain ⟨b,_,rfl⟩:=List.mem_map.1 u;exact ⟨1,rfl⟩
 refine bU (L:=[]) aE aN (by kernel_rfl) Tryz.func42 Tryz.ntmps42 Tryz.results42 rfl rfl (aA N.und aD) ?_;refine JA f.lX @cZ ?_
 refine aL (fun i e=>∃ t n low o v,e=⟨20,none,42,t,[],⟨n,low,o⟩,.no⟩/\t.val 3=v/\t.val 6=.fz (aI M) false/\t.val 7=.int .i64 (M.length:Nat)/\t.val 8=.int .i64 (i:Nat)/\AccI 0 v n o (aU (cB M i))/\i<=M.length) (fun i=>M.length-i) 0
  ⟨_,_,_,_,.nils,rfl,aG,aG,aG,eA,.inl ⟨rfl,rfl⟩,Nat.zero_le _⟩ ?_
 rintro i _ ⟨t,n,low,o,v,rfl,E,A,w,F,y,J⟩
 rcases Nat.lt_or_ge i M.length with h | D
 ·have l:=List.getElem?_eq_getElem h
  have C:(aI M)[i]?=some (.bool M[i]):=by rw [gS,l];rfl
  have c:cB M (i+1)=cB M i++(if decide (M[i]?=some true)=true then [i] else []):=lJ;rw [l]at c
  have m:=fun {q:IntKind} {d:Option AV}=>iQ (k:=1) C rfl (q:=q) (d:=d)
  have k1:(((i:Nat):Int)<((M.length:Nat):Int))=True:=eq_true aC
  have r:IntKind.i64.wrap ((i:Int)+1)=((i+1:Nat):Int):=by rw [IntWalk.i64_in _ aC];rfl
  have Q:∀ {a:AV},[AV.int .i64 0].set (0*1) a=[a]:=rfl;have H:=mY M i;have I:=y.cell;generalize M[i]=b at *
  cases b with
  | true=>
    rw [decide_eq_true rfl,if_pos rfl]at c
    have B:AccI 0 v (n+1) (o.set n (aQ 0 [.int .i64 (i:Nat)])) _:=y.keep (Nat.le_succ n) fun id _ R=>Tr.get_set_ne _ _ aC
    obtain ⟨v',T,G,o',O,P,U,V,_⟩:=B.app (low:=low) (by_:=8) dU (x:=.int .i64 (i:Nat)) rfl aC (by rw [aS];omega);refine xY @E @A @w @F @k1 f.iX @m @r @Q @O @eP ?_;exact ⟨i+1,by show _-_<_-_;omega,_,_,_,_,v',rfl,aG,aM @A,aM @w,aG,by rw [c,gI];exact P,h⟩
  | false=>
    rw [decide_eq_false (by simp),if_neg (by decide),List.append_nil]at c;refine JB @A @w @F @k1 f.iX @m @r @eP ?_;exact ⟨i+1,by show _-_<_-_;omega,_,_,_,_,v,rfl,aM @E,aM @A,aM @w,aG,by rw [c];exact y,h⟩
 ·obtain rfl:i=M.length:=Nat.le_antisymm J D
  have k1:(((M.length:Nat):Int)<((M.length:Nat):Int))=False:=eq_false (Int.lt_irrefl _);refine CT @E @w @F @k1 ?_;rw [sN]
  exact y.frz (fun x u=>(dJ x u).1) fun x u=>(dJ x u).2
end
end
end Go.Proofs.YtdipddlhenoglaaGreat
/-
 The nodes below some nodes: in plain words,and by the program.
-/
namespace Go.Abs
section
variable {g:Nat->List Nat}
theorem aEs {M:List Bool} {x:Nat}:fX (M.set x true)<=fX M:=by
 by_cases h:M[x]?=some false
 ·have:=iW h;omega
 ·have:M.set x true=M:=by
   refine List.ext_getElem? fun i=>?_
   rw [List.getElem?_set];split
   ·subst ‹x=i›
    split
    ·rename_i a
     rw [List.getElem?_eq_getElem a]at h ⊢
     cases b:M[x] with
     | true=>rfl
     | false=>exact absurd (by rw [b]) h
    ·rename_i a;exact (List.getElem?_eq_none aC).symm
   ·rfl
  rw [this];exact Nat.le_refl _
theorem wB:∀ (xs:List Nat) (M:List Bool),fX (aO M xs)<=fX M
 | [],_=>Nat.le_refl _
 | x::xs,M=>Nat.le_trans (wB xs (M.set x true)) aEs
theorem Run.split {M:List Bool} {t out:List Nat} (h:Run g M t out):∀ b d,t=b++d->∃ c f,Run g M b c/\Run g (aO M c) d f/\out=c++f:=by
 induction h with
 | nil M=>
   intro b d e;obtain ⟨rfl,rfl⟩:=List.append_eq_nil_iff.1 e.symm;exact ⟨[],[],.nil M,.nil _,rfl⟩
 | @skip M n t o k r u=>
   intro b d e
   cases b with
   | nil=>rw [List.nil_append]at e;subst e;exact ⟨[],o,.nil M,.skip k r,rfl⟩
   | cons a b=>
     rw [List.cons_append,List.cons.injEq]at e;obtain ⟨rfl,e⟩:=e;obtain ⟨c,f,l,m,q⟩:=u b d e;exact ⟨c,f,.skip k l,m,q⟩
 | @go M n t o k r u=>
   intro b d e
   cases b with
   | nil=>rw [List.nil_append]at e;subst e;exact ⟨[],n::o,.nil M,.go k r,rfl⟩
   | cons a b=>
     rw [List.cons_append,List.cons.injEq]at e;obtain ⟨rfl,e⟩:=e;obtain ⟨c,f,l,m,q⟩:=u (g n++b) d (by rw [e,List.append_assoc]);exact ⟨n::c,f,.go k l,m,by rw [q];rfl⟩
theorem Run.det {M:List Bool} {t o o':List Nat} (h:Run g M t o) (b:Run g M t o'):o=o':=by
 induction h generalizing o' with
 | nil M=>cases b;rfl
 | skip d f e=>
   cases b with
   | skip _ c=>exact e c
   | go a _=>rw [d]at a;cases a
 | go d f e=>
   cases b with
   | skip a _=>rw [d]at a;cases a
   | go _ c=>rw [e c]
end
end Go.Abs
namespace Go.Proofs.YtdipddlhenoglaaGreat
open Go.Abs Go Go.Abs.TryzF
noncomputable section
set_option maxRecDepth 10000
structure GP (ns fs:List AV):Prop where
 kid:∀ (i:Nat) n,ns[i]?=some n->∀ x∈(n.fld 2).els,0<=x.num/\x.num<ns.length
 bod:∀ f∈fs,0<=f.num/\f.num<ns.length
 nam:∀ n∈ns,(n.fld 0).num=4->(n.fld 1).num<0->-1-(n.fld 1).num<fs.length
 nl:ns.length<=300
 fl:fs.length<=ns.length
theorem AX {N:Nat}:∀ (l:List AV) (i:Nat),dM N i l=true->∀ (j:Nat) n,l[j]?=some n->∀ k∈bT n,0<=k/\k<N
 | [],_,_,j,n,h=>by simp at h
 | x::l,i,a,j,n,h=>by
   rw [dM,Bool.and_eq_true,List.all_eq_true]at a
   cases j with
   | zero=>
     simp only [List.getElem?_cons_zero,Option.some.injEq]at h;subst h;intro k b;have:=a.1 k b;simp only [inR,Bool.and_eq_true,decide_eq_true_eq]at this;omega
   | succ j=>exact AX l (i+1) a.2 j n (by simpa using h)
theorem aSx {ns fs cs:List AV} {mm:Int} (h:eF ns fs mm cs=true):GP ns fs:=by
 simp only [eF,Bool.and_eq_true,decide_eq_true_eq,List.all_eq_true,aAt]at h;obtain ⟨q,r,u,c,v,w,y,k,l,a,e⟩:=h;refine ⟨fun i n b x o=>AX ns 0 a i n b x.num (List.mem_map.2 ⟨x,o,rfl⟩),fun f m=>?_,fun n b c d=>?_,aC,aC⟩
 ·have:=l f.num (List.mem_map.2 ⟨f,m,rfl⟩)
  simp only [inR,Bool.and_eq_true,decide_eq_true_eq]at this;omega
 ·have:=k n b
  simp only [gK,Bool.and_eq_true]at this;have:=this.2.2.2.1;rw [pS,c]at this;simp only [show ¬ (4:Int)=1 by omega,show ¬ (4:Int)=2 by omega,show ¬ (4:Int)=24 by omega,if_true,if_false,inR,Bool.and_eq_true,decide_eq_true_eq]at this;omega
def gD (ns:List AV) (i:Nat):List Nat:=((ns.getD i .top).fld 2).els.map fun x=>x.num.toNat
def sJ (ns fs:List AV) (i:Nat):List Nat:=if ((ns.getD i .top).fld 0).num=4/\((ns.getD i .top).fld 1).num<0 then [(fs.getD (-1-((ns.getD i .top).fld 1).num).toNat .top).num.toNat] else []
def mM (ns fs:List AV) (i:Nat):List Nat:=gD ns i++sJ ns fs i
section
variable {ns fs mm cs:AV}
def CoS (ns fs mm cs:AV) (c m g:Nat) (M:List Bool) (s:Sto):Prop:=s.get c=some (aQ 0 [ns,fs,mm,cs,.sl m g 0 M.length (.is M.length)])/\s.get m=some (aQ g (aI M))/\M.length=ns.els.length/\m≠c
def KD (ns fs mm cs:AV) (k:Nat) (args:List AV) (s:Sto) (res:CRes):Prop:=∃ c m g M n out,args=[.ptr c 0 0,.int .i64 ((n:Nat):Int)]/\CoS ns fs mm cs c m g M s/\n<M.length/\Run (mM ns.els fs.els) M [n] out/\fX M<=k/\res=.ret (.tuple []) (some (s.put m (aQ g (aI (aO M out)))))/\bO Tryz.prog 133 args s res
def DN (ns fs mm cs:AV) (k:Nat) (args:List AV) (s:Sto) (res:CRes):Prop:=∃ c m g M n out,args=[.ptr c 0 0,.int .i64 ((n:Nat):Int)]/\CoS ns fs mm cs c m g M s/\n<M.length/\Run (mM ns.els fs.els) M (sJ ns.els fs.els n) out/\fX M<=k/\res=.ret (.tuple []) (some (s.put m (aQ g (aI (aO M out)))))/\bO Tryz.prog 96 args s res
theorem KE {k:Nat}:bM Tryz.prog (bG 133 (KD ns fs mm cs k)):=eO fun _ _ _ h=>by obtain ⟨_,_,_,_,_,_,_,_,_,_,_,_,h⟩:=h;exact h
theorem WY {k:Nat}:bM Tryz.prog (bG 96 (DN ns fs mm cs k)):=eO fun _ _ _ h=>by obtain ⟨_,_,_,_,_,_,_,_,_,_,_,_,h⟩:=h;exact h
theorem SR {M a:List Bool} (h:aI M=aI a):M=a:=by
 have:=congrArg (List.map fun x=>match x with | .bool b=>b | _=>false) h
 simpa [aI,Function.comp_def] using this
theorem CoS.uniq {c m g l f:Nat} {M a:List Bool} {s:Sto} (h:CoS ns fs mm cs c m g M s) (k:CoS ns fs mm cs c l f a s):m=l/\g=f/\M=a:=by
 have b:=h.1;rw [k.1]at b;have d:=(oI (Option.some.inj b)).2;simp only [List.cons.injEq,AV.sl.injEq,true_and,and_true]at d;obtain ⟨rfl,rfl,_⟩:=d;have e:=h.2.1;rw [k.2.1]at e;exact ⟨rfl,rfl,(SR (oI (Option.some.inj e)).2).symm⟩
theorem CJ {k c m g n:Nat} {M:List Bool} {out:List Nat} {s:Sto} (h:CoS ns fs mm cs c m g M s) (r:Run (mM ns.els fs.els) M [n] out) (u:∃ res,KD ns fs mm cs k [.ptr c 0 0,.int .i64 (n:Nat)] s res) (L:List kG):
 orcL (bG 133 (KD ns fs mm cs k)::L) 133 [.ptr c 0 0,.int .i64 (n:Nat)] s=some (.ret (.tuple []) (some (s.put m (aQ g (aI (aO M out)))))):=by
 obtain ⟨res,b,d⟩:=dX (f:=133) u;obtain ⟨y,B,A,w,v,a,e,l,_,o,_,q,_⟩:=b;simp only [List.cons.injEq,AV.int.injEq,AV.ptr.injEq,true_and,and_true]at e;obtain ⟨rfl,e⟩:=e
 obtain rfl:n=v:=by omega
 obtain ⟨rfl,rfl,rfl⟩:=h.uniq l;obtain rfl:=r.det o;rw [d L,q]
theorem WZ {k c m g n:Nat} {M:List Bool} {out:List Nat} {s:Sto} (h:CoS ns fs mm cs c m g M s) (r:Run (mM ns.els fs.els) M (sJ ns.els fs.els n) out) (u:∃ res,DN ns fs mm cs k [.ptr c 0 0,.int .i64 (n:Nat)] s res) (L:List kG):
 orcL (bG 96 (DN ns fs mm cs k)::L) 96 [.ptr c 0 0,.int .i64 (n:Nat)] s=some (.ret (.tuple []) (some (s.put m (aQ g (aI (aO M out)))))):=by
 obtain ⟨res,b,d⟩:=dX (f:=96) u;obtain ⟨y,B,A,w,v,a,e,l,_,o,_,q,_⟩:=b;simp only [List.cons.injEq,AV.int.injEq,AV.ptr.injEq,true_and,and_true]at e;obtain ⟨rfl,e⟩:=e
 obtain rfl:n=v:=by omega
 obtain ⟨rfl,rfl,rfl⟩:=h.uniq l;obtain rfl:=r.det o;rw [d L,q]
end
section
variable {ns fs mm cs:AV}
theorem iU {n g:Nat} {M:List Bool}:PW n (aQ g (aI M)):=aHu fun c a=>by
 obtain ⟨b,_,rfl⟩:=List.mem_map.1 a;exact aJ
theorem eU {n0 c m d b:Nat} {k h:Tr AObj} {x:AObj} (r:m<n0) (u:n0<=d) (o:m<=b) (q:h.get m=some x) (l:∀ id,id<n0->id≠m->h.get id=k.get id):JC ⟨n0,c,k⟩ m x (.tuple []) ⟨d,b,h⟩ (.tuple []):=
 ⟨o,(Sto.get_mk (show m<d by omega)).trans q,fun id e f=>by
  have a:id<n0:=e
  rw [Sto.get_mk (show id<d by omega),Sto.get_mk a];exact l id a f,.und _ (kU aD)⟩
theorem CoS.mk' {c m g n low:Nat} {M:List Bool} {o:Tr AObj} (f:c<n) (h:m<n) (a:o.get c=some (aQ 0 [ns,fs,mm,cs,.sl m g 0 M.length (.is M.length)])) (b:o.get m=some (aQ g (aI M))) (d:M.length=ns.els.length) (e:m≠c):CoS ns fs mm cs c m g M ⟨n,low,o⟩:=
 ⟨(Sto.get_mk f).trans a,(Sto.get_mk h).trans b,d,e⟩
set_option maxHeartbeats 4000000 in
theorem DO {k:Nat} (hp:dD (.agg [ns,fs,mm,cs])) (hg:GP ns.els fs.els) (hB:∀ {c m g n:Nat} {M:List Bool} {out:List Nat} {s:Sto},CoS ns fs mm cs c m g M s->n<M.length->Run (mM ns.els fs.els) M [n] out->fX M<=k->∃ res,KD ns fs mm cs k [.ptr c 0 0,.int .i64 (n:Nat)] s res)
 {c m g n:Nat} {M:List Bool} {out:List Nat} {s:Sto} (h:CoS ns fs mm cs c m g M s) (hn:n<M.length) (l:Run (mM ns.els fs.els) M (sJ ns.els fs.els n) out) (hk:fX M<=k):∃ res,DN ns fs mm cs k [.ptr c 0 0,.int .i64 (n:Nat)] s res:=by
 refine ⟨_,c,m,g,M,n,out,rfl,h,hn,l,hk,rfl,?_⟩;obtain ⟨A,B,h3,h4⟩:=h;refine iR (L:=[bG 133 (KD ns fs mm cs k)]) (elist_cons KE aE) aN (by kernel_rfl) Tryz.func96 Tryz.ntmps96 Tryz.results96 rfl rfl (Sto.get_lt B) iU ?_;obtain ⟨n0,ak,o0⟩:=s;have C:m<n0:=Sto.get_lt B;have U:c<n0:=Sto.get_lt A;rw [Sto.get_mk U]at A;rw [Sto.get_mk C]at B;have O:=dO U;have fm:=dO C;obtain ⟨a0,a1,a2,a3,e,G,F,ad,V⟩:=hp;simp only [AV.agg.injEq,List.cons.injEq,and_true]at e;obtain ⟨rfl,rfl,rfl,rfl⟩:=e;have c0:=(bP _ G).2;have c1:=(aT _ F).2;have c2:=(tu_int _ ad).2;have c3:=(cJ _ V).2;obtain ⟨xn,a,S⟩:=G;obtain ⟨xf,f,R⟩:=F;rw [a.els]at h3;rw [a.els,f.els]at l;obtain ⟨y,E,ae,Z,_,u,_,_⟩:=bB (k:=4) (fun x h=>tk_node.len h) S a.2 (show n<xn.length by omega)
 have Y:xn.getD n .top=y:=by rw [List.getD_eq_getElem?_getD,Z];rfl
 rw [sJ,Y]at l
 have w:=fun {d:Option AV}=>tk_node.pf E (d:=d)
 obtain ⟨q0,q1,H,I,rfl,⟨op,rfl⟩,⟨q,rfl⟩,ab,ah⟩:=E;have J:=(aT _ ab).2;have N:=(eG _ ah).2;rw [show ((AV.agg [.int .i64 op,.int .i64 q,H,I]).fld 0).num=op from rfl,show ((AV.agg [.int .i64 op,.int .i64 q,H,I]).fld 1).num=q from rfl]at l;by_cases P:op=4
 ·subst P
  by_cases D:q<0
  ·rw [if_pos ⟨rfl,D⟩]at l
   have aj:-1-q<(xf.length:Int):=by
    have:=hg.nam (.agg [.int .i64 4,.int .i64 q,H,I]) (a.els ▸ ae) rfl (by exact D);rw [f.els]at this;exact this
   have ai:IntKind.i64.wrap (-1-q)=(((-1-q).toNat:Nat):Int):=by
    have:=f.2;rw [IntWalk.i64_in _ aC];omega
   obtain ⟨b,Q,ac,X,_,aa,_,_⟩:=bB (k:=1) (fun x h=>tu_int.len h) R f.2 (show (-1-q).toNat<xf.length by omega);have T:=hg.bod b (f.els ▸ ac);rw [List.getD_eq_getElem?_getD,X]at l;obtain ⟨z,rfl⟩:=Q;rw [show (AV.int .i64 z).num=z from rfl,a.els]at T
   obtain ⟨b,rfl⟩:∃ b:Nat,z=(b:Nat):=⟨z.toNat,aC⟩
   change Run _ M [b] out at l
   let o1:=(o0.set n0 (aQ 0 [AV.int IntKind.i64 0,AV.int IntKind.i64 0,AV.nils,AV.nils])).set n0 (aQ 0 [AV.int IntKind.i64 4,AV.int IntKind.i64 q,H,I])
   have v:∀ id,id<n0->o1.get id=o0.get id:=fun id r=>by rw [Tr.get_set_ne _ _ aC,Tr.get_set_ne _ _ aC]
   have hC:CoS ns fs mm cs c m g M ⟨n0+1,n0.min n0,o1⟩:=CoS.mk' aC aC ((v c U).trans A) ((v m C).trans B) (by rw [a.els];exact h3) h4;have o:=CJ hC (by rw [a.els,f.els];exact l) (hB hC aC (by rw [a.els,f.els];exact l) hk) [];rw [Sto.put_any]at o;simp +contextual +decide (maxSteps:=1000000) only [↓ wP,wQ,tf,Nat.reduceAdd,wS,A,O,J,N,a.idx,u,w,eP,D,ai,f.idx,aa,o,o1]
   exact eU C (Nat.le_succ _) (by show m<=min m (min n0 n0);omega) (Tr.get_set_same _ _ _) fun id r af=>by rw [Tr.get_set_ne _ _ af];exact v id r
  ·rw [if_neg fun e=>D e.2]at l
   cases l;refine UO @A @O @J @N a.iX @u @w @eP @D ?_
   exact eU C (Nat.le_succ _) (by show m<=min n0 n0;omega) (by rw [Tr.get_set_ne _ _ aC,Tr.get_set_ne _ _ aC];exact B) fun id r _=>by rw [Tr.get_set_ne _ _ aC,Tr.get_set_ne _ _ aC]
 ·rw [if_neg fun e=>P e.1]at l
  cases l;refine UO @A @O @J @N a.iX @u @w @eP @P ?_
  exact eU C (Nat.le_succ _) (by show m<=min n0 n0;omega) (by rw [Tr.get_set_ne _ _ aC,Tr.get_set_ne _ _ aC];exact B) fun id r _=>by rw [Tr.get_set_ne _ _ aC,Tr.get_set_ne _ _ aC]
theorem bQ {M:List Bool} {a b:List Nat}:aO (aO M a) b=aO M (a++b):=by rw [aO,aO,aO,List.foldl_append]
set_option maxHeartbeats 4000000 in
theorem wC (hp:dD (.agg [ns,fs,mm,cs])) (hg:GP ns.els fs.els):∀ (k:Nat) {c m g n:Nat} {M:List Bool} {out:List Nat} {s:Sto},CoS ns fs mm cs c m g M s->n<M.length->Run (mM ns.els fs.els) M [n] out->fX M<=k->∃ res,KD ns fs mm cs k [.ptr c 0 0,.int .i64 (n:Nat)] s res:=by
 intro k
 induction k with
 | zero=>
   intro c m g n M out s h N u hk
   have l:M[n]?=some true:=by
    have:=List.getElem?_eq_getElem N
    cases hb:M[n] with
    | true=>rw [this,hb]
    | false=>rw [hb]at this;have:=iW this;omega
   cases u with
   | go F _=>rw [l]at F;cases F
   | skip _ u=>
   cases u;refine ⟨_,c,m,g,M,n,[],rfl,h,N,.skip l (.nil M),hk,rfl,?_⟩;obtain ⟨D,r,h3,R⟩:=h;refine iR (L:=[]) aE aN (by kernel_rfl) Tryz.func133 Tryz.ntmps133 Tryz.results133 rfl rfl (Sto.get_lt r) iU ?_;obtain ⟨n0,ab,o0⟩:=s;have w:m<n0:=Sto.get_lt r;have Q:c<n0:=Sto.get_lt D;rw [Sto.get_mk Q]at D;rw [Sto.get_mk w]at r;have fc:=dO Q;have fm:=dO w;have e1:(0<=((n:Nat):Int))=True:=eq_true aC;have e2:(((n:Nat):Int)<((M.length:Nat):Int))=True:=eq_true aC
   have v:(aI M)[n]?=some (.bool true):=by rw [gS,l];rfl
   refine rA @D @r @fc @fm @e1 @e2 @v @Int.toNat_natCast @Nat.mul_one @Nat.zero_add ?_
   exact eU w (Nat.le_refl _) (Nat.le_of_lt w) r fun id _ _=>rfl
 | succ k ih=>
   intro c m g n M out s h N u hk;refine ⟨_,c,m,g,M,n,out,rfl,h,N,u,hk,rfl,?_⟩;have h':=h;obtain ⟨D,r,h3,R⟩:=h
   have hN:=fun {c m g n:Nat} {M:List Bool} {out:List Nat} {s:Sto}=>DO (c:=c) (m:=m) (g:=g) (n:=n) (M:=M) (out:=out) (s:=s) hp hg ih
   refine iR (L:=[bG 133 (KD ns fs mm cs k),bG 96 (DN ns fs mm cs k)]) (elist_cons KE (elist_cons WY aE)) aN (by kernel_rfl) Tryz.func133 Tryz.ntmps133 Tryz.results133 rfl rfl (Sto.get_lt r) iU ?_;obtain ⟨n0,ab,o0⟩:=s;have w:m<n0:=Sto.get_lt r;have Q:c<n0:=Sto.get_lt D;rw [Sto.get_mk Q]at D;rw [Sto.get_mk w]at r;have fc:=dO Q;have fm:=dO w;have e1:(0<=((n:Nat):Int))=True:=eq_true aC;have e2:(((n:Nat):Int)<((M.length:Nat):Int))=True:=eq_true aC
   have v:(aI M)[n]?=some (.bool M[n]):=by rw [gS,List.getElem?_eq_getElem N];rfl
   have l:=List.getElem?_eq_getElem N;generalize M[n]=b at v l
   cases b with
   | true=>
     cases u with
     | go F _=>rw [l]at F;cases F
     | skip _ u=>
       cases u;refine rA @D @r @fc @fm @e1 @e2 @v @Int.toNat_natCast @Nat.mul_one @Nat.zero_add ?_
       exact eU w (Nat.le_refl _) (Nat.le_of_lt w) r fun id _ _=>rfl
   | false=>
     cases u with
     | skip F _=>rw [l]at F;cases F
     | @go _ _ _ o _ u=>
       have ak:=kJ (M:=M) (n:=n)
       have aj:n<(aI M).length:=by rw [cZ];exact N
       obtain ⟨a0,a1,a2,a3,e,Z,ay,ba,ax⟩:=id hp;simp only [AV.agg.injEq,List.cons.injEq,and_true]at e;obtain ⟨rfl,rfl,rfl,rfl⟩:=e;have c0:=(bP _ Z).2;obtain ⟨xn,B,ai⟩:=Z;obtain ⟨y,S,bb,V,_,aq,_,_⟩:=bB (k:=4) (fun x h=>tk_node.len h) ai B.2 (show n<xn.length by rw [B.els]at h3;omega)
       have an:xn.getD n .top=y:=by rw [List.getD_eq_getElem?_getD,V];rfl
       have bd:=fun {d:Option AV}=>tk_node.pf S (d:=d)
       have G:=hg.kid n y (B.els ▸ V);obtain ⟨q0,q1,q2,q3,rfl,⟨op,rfl⟩,⟨ag,rfl⟩,X,bc⟩:=S;have d2:=(aT _ X).2;obtain ⟨C,A,ah⟩:=X;rw [show ((AV.agg [.int .i64 op,.int .i64 ag,q2,q3]).fld 2).els=C from A.els]at G
       have ar:gD ns.els n=C.map fun x=>x.num.toNat:=by rw [gD,B.els,an];exact congrArg _ A.els
       rw [List.append_nil]at u;obtain ⟨o1,o2,r1,r2,rfl⟩:=u.split (gD ns.els n) (sJ ns.els fs.els n) rfl;rw [ar]at r1;have be:=iW l;have aa:(M.set n true).length=M.length:=List.length_set ..;refine PK @D @r @fc @fm (Ne.symm R) @e1 @e2 @v @ak @aj @Int.toNat_natCast @Nat.mul_one @Nat.zero_add B.iX @aq A.lX @d2 ?_;generalize af:M.set n true=P at *
       refine aL (fun j e=>∃ t low o p rest,e=⟨40,none,133,t,[],⟨n0,low,o⟩,.no⟩/\t.val 0=.ptr c 0 0/\t.val 1=.int .i64 (n:Nat)/\t.val 27=q2/\t.val 28=.int .i64 (C.length:Nat)/\t.val 29=.int .i64 (j:Nat)/\o.get c=some (aQ 0 [ns,fs,mm,cs,.sl m g 0 M.length (.is M.length)])/\o.get m=some (aQ g (aI (aO P p)))/\m<=low/\(∀ id,id<n0->id≠m->o.get id=o0.get id)/\Run (mM ns.els fs.els) (aO P p) ((C.map fun x=>x.num.toNat).drop j) rest/\o1=p++rest/\j<=C.length) (fun j=>C.length-j) 0
        ⟨_,_,_,[],o1,rfl,aG,aG,aG,aG,eA,by rw [Tr.get_set_ne _ _ (Ne.symm R)];exact D,Tr.get_set_same _ _ _,by show m<=min m n0;omega,fun id _ q=>Tr.get_set_ne _ _ q,r1,rfl,Nat.zero_le _⟩ ?_
       rintro j _ ⟨t,low,ob,p,rest,rfl,t0,t1,ac,O,ad,g1,g2,H,I,f,ho,hj⟩;have T:(aO P p).length=M.length:=(bK _ _).trans aa;have hC:CoS ns fs mm cs c m g (aO P p) ⟨n0,low,ob⟩:=CoS.mk' Q w (by rw [T];exact g1) g2 (by rw [T];exact h3) R;have bf:=wB p P
       rcases Nat.lt_or_ge j C.length with Y | ao
       ·obtain ⟨x,ae,au,az,am,ap,av,al⟩:=bB (k:=1) (fun x h=>tu_int.len h) ah A.2 Y
        have aw:=G x au;rw [<-List.map_drop,am,List.map_cons]at f;obtain ⟨z,rfl⟩:=ae;rw [show (AV.int .i64 z).num=z from rfl]at aw f
        obtain ⟨b,rfl⟩:∃ b:Nat,z=(b:Nat):=⟨z.toNat,aC⟩
        rw [Int.toNat_natCast]at f;obtain ⟨p1,p2,u1,u2,u3⟩:=f.split [b] _ rfl;have a:=CJ hC u1 (ih hC aC u1 aC) [bG 96 (DN ns fs mm cs k)];rw [Sto.put_any,bQ]at a;rw [bQ]at u2;refine UO @t0 @ac @O @ad A.iX @ap @av @al @a ?_;exact ⟨j+1,by show _-_<_-_;omega,_,_,_,p++p1,p2,rfl,aM @t0,aM @t1,aM @ac,aM @O,aG,by rw [Tr.get_set_ne _ _ (Ne.symm R)];exact g1,Tr.get_set_same _ _ _,Nat.le_min.2 ⟨Nat.le_refl _,H⟩,fun id J q=>by rw [Tr.get_set_ne _ _ q];exact I id J q,by rw [<-List.map_drop];exact u2,by rw [ho,u3,List.append_assoc],Y⟩
       ·obtain rfl:j=C.length:=Nat.le_antisymm hj ao
        rw [List.drop_of_length_le (by rw [List.length_map];exact Nat.le_refl _)]at f;cases f;rw [List.append_nil]at ho;subst ho;have a:=WZ hC r2 (hN hC aC r2 aC) [];rw [Sto.put_any,bQ]at a;have E:orcL [bG 133 (KD ns fs mm cs k),bG 96 (DN ns fs mm cs k)] 96 [.ptr c 0 0,.int .i64 (n:Nat)] ⟨n0,low,ob⟩=_:=a;have k1:(((C.length:Nat):Int)<((C.length:Nat):Int))=False:=eq_false (Int.lt_irrefl _);refine PJ @t0 @t1 @O @ad @k1 @E ?_
        have U:aO M (n::(o1++o2))=aO P (o1++o2):=by rw [<-af];rfl
        rw [U]
        exact eU w (Nat.le_refl _) (Nat.le_min.2 ⟨Nat.le_refl _,H⟩) (Tr.get_set_same _ _ _) fun id J q=>by rw [Tr.get_set_ne _ _ q];exact I id J q
end
end
end Go.Proofs.YtdipddlhenoglaaGreat
