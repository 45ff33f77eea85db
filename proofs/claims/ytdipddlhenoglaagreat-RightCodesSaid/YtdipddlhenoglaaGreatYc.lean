/-
  The nodes below some nodes, by the reference.
-/
import Derived.Test.YtdipddlhenoglaaGreatYa
set_option linter.unusedVariables false
set_option linter.unusedSimpArgs false
namespace Go.Proofs.YtdipddlhenoglaaGreat
open Go.Abs Go Go.Abs.TryzF
noncomputable section
set_option maxRecDepth 10000
def mL (ns fs:List AV) (i:Nat):List Nat:=sJ ns fs i++gD ns i
section
variable {ns fs mm cs:AV}
def ZT (ns fs mm cs:AV) (k:Nat) (args:List AV) (s:Sto) (res:CRes):Prop:=∃ c m g M n out,args=[.ptr c 0 0,.int .i64 ((n:Nat):Int)]/\CoS ns fs mm cs c m g M s/\n<M.length/\Run (mL ns.els fs.els) M [n] out/\fX M<=k/\res=.ret (.tuple []) (some (s.put m (aQ g (aI (aO M out)))))/\bO Tryz.prog 101 args s res
theorem SL {k:Nat}:bM Tryz.prog (bG 101 (ZT ns fs mm cs k)):=eO fun _ _ _ h=>by obtain ⟨_,_,_,_,_,_,_,_,_,_,_,_,h⟩:=h;exact h
theorem SM {k c m g n:Nat} {M:List Bool} {out:List Nat} {s:Sto} (h:CoS ns fs mm cs c m g M s) (r:Run (mL ns.els fs.els) M [n] out) (u:∃ res,ZT ns fs mm cs k [.ptr c 0 0,.int .i64 (n:Nat)] s res) (L:List kG):
 orcL (bG 101 (ZT ns fs mm cs k)::L) 101 [.ptr c 0 0,.int .i64 (n:Nat)] s=some (.ret (.tuple []) (some (s.put m (aQ g (aI (aO M out)))))):=by
 obtain ⟨res,b,d⟩:=dX (f:=101) u;obtain ⟨y,B,A,w,v,a,e,l,_,o,_,q,_⟩:=b;simp only [List.cons.injEq,AV.int.injEq,AV.ptr.injEq,true_and,and_true]at e;obtain ⟨rfl,e⟩:=e
 obtain rfl:n=v:=by omega
 obtain ⟨rfl,rfl,rfl⟩:=h.uniq l;obtain rfl:=r.det o;rw [d L,q]
set_option maxHeartbeats 4000000 in
theorem HW (hp:dD (.agg [ns,fs,mm,cs])) (hg:GP ns.els fs.els):∀ (k:Nat) {c m g n:Nat} {M:List Bool} {out:List Nat} {s:Sto},CoS ns fs mm cs c m g M s->n<M.length->Run (mL ns.els fs.els) M [n] out->fX M<=k->∃ res,ZT ns fs mm cs k [.ptr c 0 0,.int .i64 (n:Nat)] s res:=by
 intro k
 induction k with
 | zero=>
   intro c m g n M out s h hn E hk
   have v:M[n]?=some true:=by
    have:=List.getElem?_eq_getElem hn
    cases hb:M[n] with
    | true=>rw [this,hb]
    | false=>rw [hb]at this;have:=iW this;omega
   cases E with
   | go T _=>rw [v]at T;cases T
   | skip _ E=>
   cases E;refine ⟨_,c,m,g,M,n,[],rfl,h,hn,.skip v (.nil M),hk,rfl,?_⟩;obtain ⟨F,C,h3,h4⟩:=h;refine iR (L:=[]) aE aN (by kernel_rfl) Tryz.func101 Tryz.ntmps101 Tryz.results101 rfl rfl (Sto.get_lt C) iU ?_;obtain ⟨n0,X,R⟩:=s;have J:m<n0:=Sto.get_lt C;have hc:c<n0:=Sto.get_lt F;rw [Sto.get_mk hc]at F;rw [Sto.get_mk J]at C;have fc:=dO hc;have fm:=dO J;have e1:(0<=((n:Nat):Int))=True:=eq_true aC;have e2:(((n:Nat):Int)<((M.length:Nat):Int))=True:=eq_true aC
   have w:(aI M)[n]?=some (.bool true):=by rw [gS,v];rfl
   refine rA @F @C @fc @fm @e1 @e2 @w @Int.toNat_natCast @Nat.mul_one @Nat.zero_add ?_
   exact eU J (Nat.le_refl _) (Nat.le_of_lt J) C fun id _ _=>rfl
 | succ k ih=>
   intro c m g n M out s h hn E hk;refine ⟨_,c,m,g,M,n,out,rfl,h,hn,E,hk,rfl,?_⟩;have h':=h;obtain ⟨F,C,h3,h4⟩:=h;refine iR (L:=[bG 101 (ZT ns fs mm cs k)]) (elist_cons SL aE) aN (by kernel_rfl) Tryz.func101 Tryz.ntmps101 Tryz.results101 rfl rfl (Sto.get_lt C) iU ?_;obtain ⟨n0,X,R⟩:=s;have J:m<n0:=Sto.get_lt C;have hc:c<n0:=Sto.get_lt F;rw [Sto.get_mk hc]at F;rw [Sto.get_mk J]at C;have fc:=dO hc;have fm:=dO J;have e1:(0<=((n:Nat):Int))=True:=eq_true aC;have e2:(((n:Nat):Int)<((M.length:Nat):Int))=True:=eq_true aC
   have w:(aI M)[n]?=some (.bool M[n]):=by rw [gS,List.getElem?_eq_getElem hn];rfl
   have v:=List.getElem?_eq_getElem hn;generalize M[n]=b at w v
   cases b with
   | true=>
     cases E with
     | go T _=>rw [v]at T;cases T
     | skip _ E=>
       cases E;refine rA @F @C @fc @fm @e1 @e2 @w @Int.toNat_natCast @Nat.mul_one @Nat.zero_add ?_
       exact eU J (Nat.le_refl _) (Nat.le_of_lt J) C fun id _ _=>rfl
   | false=>
     cases E with
     | skip T _=>rw [v]at T;cases T
     | @go _ _ _ o _ E=>
       have aa:=kJ (M:=M) (n:=n)
       have Z:n<(aI M).length:=by rw [cZ];exact hn
       obtain ⟨a0,a1,a2,a3,e,aq,aj,bu,bs⟩:=id hp;simp only [AV.agg.injEq,List.cons.injEq,and_true]at e;obtain ⟨rfl,rfl,rfl,rfl⟩:=e;have c0:=(bP _ aq).2;obtain ⟨xn,a,ay⟩:=aq;obtain ⟨y,af,bj,al,_,ab,_,_⟩:=bB (k:=4) (fun x h=>tk_node.len h) ay a.2 (show n<xn.length by rw [a.els]at h3;omega)
       have ak:xn.getD n .top=y:=by rw [List.getD_eq_getElem?_getD,al];rfl
       have ae:=fun {d:Option AV}=>tk_node.pf af (d:=d)
       have U:=hg.kid n y (a.els ▸ al);obtain ⟨q0,q1,I,S,rfl,⟨op,rfl⟩,⟨u,rfl⟩,am,bk⟩:=af;have d2:=(aT _ am).2;obtain ⟨B,D,ax⟩:=am;rw [show ((AV.agg [.int .i64 op,.int .i64 u,I,S]).fld 2).els=B from D.els]at U
       have bg:gD ns.els n=B.map fun x=>x.num.toNat:=by rw [gD,a.els,ak];exact congrArg _ D.els
       rw [List.append_nil]at E;obtain ⟨o1,Y,r1,r2,rfl⟩:=E.split (sJ ns.els fs.els n) (gD ns.els n) rfl;rw [bg]at r2;have bv:=iW v;have ar:(M.set n true).length=M.length:=List.length_set ..;have d3:=(eG _ bk).2;have c1:=(aT _ aj).2;obtain ⟨xf,f,aw⟩:=aj;have ai:aO M (n::(o1++Y))=aO (M.set n true) (o1++Y):=rfl;rw [ai];rw [sJ,a.els,ak,show ((AV.agg [.int .i64 op,.int .i64 u,I,S]).fld 0).num=op from rfl,show ((AV.agg [.int .i64 op,.int .i64 u,I,S]).fld 1).num=u from rfl]at r1
       have bp:(op=4/\u<0)∨(op=4/\¬ u<0)∨¬ op=4:=by
        by_cases h5:op=4
        ·by_cases N:u<0
         ·exact .inl ⟨h5,N⟩
         ·exact .inr (.inl ⟨h5,N⟩)
        ·exact .inr (.inr h5)
       have P:=Ne.symm h4;generalize br:M.set n true=r at *
       let oA:=((R.set m (aQ g (aI r))).set n0 (aQ 0 [AV.int .i64 0,AV.int .i64 0,AV.nils,AV.nils])).set n0 (aQ 0 [AV.int .i64 op,AV.int .i64 u,I,S])
       have ad:∀ id,id<n0->id≠m->oA.get id=R.get id:=fun id Q A=>by
        show (((R.set m _).set n0 _).set n0 _).get id=_;rw [Tr.get_set_ne _ _ aC,Tr.get_set_ne _ _ aC,Tr.get_set_ne _ _ A]
       have ao:oA.get m=some (aQ g (aI r)):=by
        show (((R.set m _).set n0 _).set n0 _).get m=_;rw [Tr.get_set_ne _ _ aC,Tr.get_set_ne _ _ aC,Tr.get_set_same]
       have ac:oA.get n0=some (aQ 0 [AV.int .i64 op,AV.int .i64 u,I,S]):=Tr.get_set_same _ _ _
       have G:∀ {b:Nat} {p p1:List Nat} {low:Nat} {o':Tr AObj},b<ns.els.length->Run (mL ns.els fs.els) (aO r p) [b] p1->o'.get c=some (aQ 0 [ns,fs,mm,cs,.sl m g 0 M.length (.is M.length)])->o'.get m=some (aQ g (aI (aO r p)))->orcL [bG 101 (ZT ns fs mm cs k)] 101 [.ptr c 0 0,.int .i64 (b:Nat)] ⟨n0+1,low,o'⟩=some (.ret (.tuple []) (some ⟨n0+1,Nat.min m low,o'.set m (aQ g (aI (aO r (p++p1))))⟩)):=fun {b p p1 low o'} hb u1 q1 I=>by
        have ah:(aO r p).length=M.length:=(bK _ _).trans ar;have hC:CoS ns fs mm cs c m g (aO r p) ⟨n0+1,low,o'⟩:=CoS.mk' aC aC (by rw [ah];exact q1) I (by rw [ah];exact h3) h4;have:=SM hC u1 (ih hC aC u1 (by have:=wB p r;omega)) [];rw [Sto.put_any,bQ]at this;exact this
       rcases bp with ⟨rfl,N⟩ | ⟨rfl,N⟩ | h5
       case' inl=>
        rw [if_pos ⟨rfl,N⟩]at r1
        have bq:-1-u<(xf.length:Int):=by
         have:=hg.nam (.agg [.int .i64 4,.int .i64 u,I,S]) (a.els ▸ bj) rfl (by exact N);rw [f.els]at this;exact this
        have bl:IntKind.i64.wrap (-1-u)=(((-1-u).toNat:Nat):Int):=by
         have:=f.2;rw [IntWalk.i64_in _ aC];omega
        obtain ⟨b,au,bh,bc,_,be,_,_⟩:=bB (k:=1) (fun x h=>tu_int.len h) aw f.2 (show (-1-u).toNat<xf.length by omega);have az:=hg.bod b (f.els ▸ bh);rw [f.els,List.getD_eq_getElem?_getD,bc]at r1;obtain ⟨z,rfl⟩:=au;rw [show (AV.int .i64 z).num=z from rfl]at az
        obtain ⟨b,rfl⟩:∃ b:Nat,z=(b:Nat):=⟨z.toNat,aC⟩
        change Run _ (aO r []) [b] o1 at r1;rw [<-a.els,<-f.els]at r1
        have O:=fun {low:Nat} {o':Tr AObj}=>G (low:=low) (o':=o') (show b<ns.els.length by omega) r1
        have ap:aO r []=r:=rfl;rw [ap,List.nil_append]at O;simp +contextual +decide (maxSteps:=1000000) only [↓ wP,wQ,tf,Nat.reduceAdd,wS,F,C,fc,fm,P,e1,e2,w,aa,Z,Int.toNat_natCast,Nat.mul_one,Nat.zero_add,a.idx,ab,ae,d2,d3,eP,N,bl,f.idx,be,O]
        refine aL (fun j e=>∃ t low o p rest,e=⟨61,none,101,t,[],⟨n0+1,low,o⟩,.no⟩/\t.val 0=.ptr c 0 0/\t.val 4=.ptr n0 0 0/\t.val 5=.int .i64 (j:Nat)/\o.get n0=some (aQ 0 [AV.int .i64 4,AV.int .i64 u,I,S])/\o.get m=some (aQ g (aI (aO r p)))/\m<=low/\(∀ id,id<n0->id≠m->o.get id=R.get id)/\Run (mL ns.els fs.els) (aO r p) ((B.map fun x=>x.num.toNat).drop j) rest/\o1++Y=p++rest/\j<=B.length) (fun j=>B.length-j) 0
         ⟨_,_,_,o1,Y,rfl,aG,aG,eA,by rw [Tr.get_set_ne _ _ aC];exact ac,Tr.get_set_same _ _ _,Nat.le_min.2 ⟨Nat.le_refl _,Nat.le_min.2 ⟨aC,Nat.le_min.2 ⟨Nat.le_refl _,aC⟩⟩⟩,fun id Q A=>by rw [Tr.get_set_ne _ _ A];exact ad id Q A,by rw [a.els,f.els]at *;exact r2,rfl,Nat.zero_le _⟩ ?_
       case' inr.inl=>
        rw [if_neg fun e=>N e.2]at r1
        obtain rfl:o1=[]:=by cases r1;rfl
        refine UQ @F @C @fc @fm @P @e1 @e2 @w @aa @Z @Int.toNat_natCast @Nat.mul_one @Nat.zero_add a.iX @ab @ae @d2 @d3 @eP @N ?_
        refine aL (fun j e=>∃ t low o p rest,e=⟨61,none,101,t,[],⟨n0+1,low,o⟩,.no⟩/\t.val 0=.ptr c 0 0/\t.val 4=.ptr n0 0 0/\t.val 5=.int .i64 (j:Nat)/\o.get n0=some (aQ 0 [AV.int .i64 4,AV.int .i64 u,I,S])/\o.get m=some (aQ g (aI (aO r p)))/\m<=low/\(∀ id,id<n0->id≠m->o.get id=R.get id)/\Run (mL ns.els fs.els) (aO r p) ((B.map fun x=>x.num.toNat).drop j) rest/\[]++Y=p++rest/\j<=B.length) (fun j=>B.length-j) 0
         ⟨_,_,_,[],Y,rfl,aG,aG,eA,ac,ao,Nat.le_min.2 ⟨aC,Nat.le_min.2 ⟨Nat.le_refl _,aC⟩⟩,ad,by rw [a.els,f.els]at *;exact r2,rfl,Nat.zero_le _⟩ ?_
       case' inr.inr=>
        rw [if_neg fun e=>h5 e.1]at r1
        obtain rfl:o1=[]:=by cases r1;rfl
        refine UQ @F @C @fc @fm @P @e1 @e2 @w @aa @Z @Int.toNat_natCast @Nat.mul_one @Nat.zero_add a.iX @ab @ae @d2 @d3 @eP @h5 ?_
        refine aL (fun j e=>∃ t low o p rest,e=⟨61,none,101,t,[],⟨n0+1,low,o⟩,.no⟩/\t.val 0=.ptr c 0 0/\t.val 4=.ptr n0 0 0/\t.val 5=.int .i64 (j:Nat)/\o.get n0=some (aQ 0 [AV.int .i64 op,AV.int .i64 u,I,S])/\o.get m=some (aQ g (aI (aO r p)))/\m<=low/\(∀ id,id<n0->id≠m->o.get id=R.get id)/\Run (mL ns.els fs.els) (aO r p) ((B.map fun x=>x.num.toNat).drop j) rest/\[]++Y=p++rest/\j<=B.length) (fun j=>B.length-j) 0
         ⟨_,_,_,[],Y,rfl,aG,aG,eA,ac,ao,Nat.le_min.2 ⟨aC,Nat.le_min.2 ⟨Nat.le_refl _,aC⟩⟩,ad,by rw [a.els,f.els]at *;exact r2,rfl,Nat.zero_le _⟩ ?_
       all_goals
        rintro j _ ⟨t,low,o,p,rest,rfl,t0,t4,t5,gn,gm,V,H,q,ho,hj⟩;have gc:=(H c hc P).trans F;have fn:=dO (show n0<n0+1 by omega)
        rcases Nat.lt_or_ge j B.length with an | bd
        ·obtain ⟨x,av,bi,bt,bb,bf,bm,ba⟩:=bB (k:=1) (fun x h=>tu_int.len h) ax D.2 an
         have bn:=U x bi;rw [<-List.map_drop,bb,List.map_cons]at q;obtain ⟨z,rfl⟩:=av;rw [show (AV.int .i64 z).num=z from rfl]at bn q
         obtain ⟨b,rfl⟩:∃ b:Nat,z=(b:Nat):=⟨z.toNat,aC⟩
         rw [Int.toNat_natCast]at q;obtain ⟨p1,p2,u1,u2,u3⟩:=q.split [b] _ rfl;rw [bQ]at u2;have O:=G (low:=low) (show b<ns.els.length by omega) u1 gc gm;refine xY @t0 @t4 @t5 @gn @eP D.lX D.iX @bf @bm @ba @O ?_;exact ⟨j+1,by show _-_<_-_;omega,_,_,_,p++p1,p2,rfl,aM @t0,aM @t4,aG,by rw [Tr.get_set_ne _ _ aC];exact gn,Tr.get_set_same _ _ _,Nat.le_min.2 ⟨Nat.le_refl _,V⟩,fun id Q A=>by rw [Tr.get_set_ne _ _ A];exact H id Q A,by rw [<-List.map_drop];exact u2,ho.trans (by rw [u3,List.append_assoc]),an⟩
        ·obtain rfl:j=B.length:=Nat.le_antisymm hj bd
         rw [List.drop_of_length_le (by rw [List.length_map];exact Nat.le_refl _)]at q;cases q;rw [List.append_nil]at ho;have k1:(((B.length:Nat):Int)<((B.length:Nat):Int))=False:=eq_false (Int.lt_irrefl _);refine PJ @t4 @t5 @gn @eP D.lX @k1 ?_;exact Eq.mpr (congrArg (fun l=>JC ⟨n0,X,R⟩ m (aQ g (aI (aO r l))) (.tuple []) ⟨n0+1,low,o⟩ (.tuple [])) ho) (eU J (Nat.le_succ _) V gm H)
end
section
variable {ns fs mm cs:AV}
def JX (ns fs:List AV) (f:AV):List Nat:=KA ns f++sJ ns fs (f.fld 0).num.toNat
def RFr (ns fs mm cs:AV) (args:List AV) (s:Sto) (res:CRes):Prop:=∃ c m g M f out,args=[.ptr c 0 0,f]/\CoS ns fs mm cs c m g M s/\Run (mL ns.els fs.els) M (JX ns.els fs.els f) out/\res=.ret (.tuple []) (some (s.put m (aQ g (aI (aO M out)))))/\bO Tryz.prog 100 args s res
theorem aPp:bM Tryz.prog (bG 100 (RFr ns fs mm cs)):=eO fun _ _ _ h=>by obtain ⟨_,_,_,_,_,_,_,_,_,_,h⟩:=h;exact h
set_option maxHeartbeats 8000000 in
theorem SN (hp:dD (.agg [ns,fs,mm,cs])) (hg:GP ns.els fs.els) {c m g:Nat} {M:List Bool} {f:AV} {out:List Nat} {s:Sto} (h:CoS ns fs mm cs c m g M s) (hf:TFr f) (Y:0<=(f.fld 0).num/\(f.fld 0).num<ns.els.length) (hr:Run (mL ns.els fs.els) M (JX ns.els fs.els f) out):∃ res,RFr ns fs mm cs [.ptr c 0 0,f] s res:=by
 refine ⟨_,c,m,g,M,f,out,rfl,h,hr,rfl,?_⟩;obtain ⟨h1,h2,h3,h4⟩:=h;refine iR (L:=[bG 101 (ZT ns fs mm cs ns.els.length)]) (elist_cons SL aE) aN (by kernel_rfl) Tryz.func100 Tryz.ntmps100 Tryz.results100 rfl rfl (Sto.get_lt h2) iU ?_;obtain ⟨n0,ah,o0⟩:=s;have hm:m<n0:=Sto.get_lt h2;have hc:c<n0:=Sto.get_lt h1;rw [Sto.get_mk hc]at h1;rw [Sto.get_mk hm]at h2;have fc:=dO hc;have fm:=dO hm;obtain ⟨a0,a1,a2,a3,e,ad,Z,bm,bk⟩:=id hp;simp only [AV.agg.injEq,List.cons.injEq,and_true]at e;obtain ⟨rfl,rfl,rfl,rfl⟩:=e;have c0:=(bP _ ad).2;have c1:=(aT _ Z).2;obtain ⟨xn,r,am⟩:=ad;obtain ⟨xf,A,ak⟩:=Z;obtain ⟨a,b,d,rfl,⟨ka,rfl⟩,hb,hd⟩:=hf;have ao:=(tu_vals b hb).2;have ap:=(tu_vals d hd).2;obtain ⟨xd,af,bj⟩:=hd;rw [show ((AV.agg [.int .i64 ka,b,d]).fld 0).num=ka from rfl]at Y
 obtain ⟨i,rfl⟩:∃ i:Nat,ka=(i:Nat):=⟨ka.toNat,aC⟩
 have ay:i<xn.length:=by have:=Y.2;rw [r.els]at this;omega
 obtain ⟨y,U,be,ab,_,G,_,_⟩:=bB (k:=4) (fun x h=>tk_node.len h) am r.2 ay
 have aa:xn.getD i .top=y:=by rw [List.getD_eq_getElem?_getD,ab];rfl
 have O:=fun {d:Option AV}=>tk_node.pf U (d:=d)
 have I:=hg.kid i y (r.els ▸ ab);obtain ⟨q0,q1,R,q3,rfl,⟨op,rfl⟩,⟨F,rfl⟩,N,ae⟩:=U;have d2:=(aT _ N).2;have d3:=(eG _ ae).2;have ac:=N;obtain ⟨P,q,al⟩:=N;rw [show ((AV.agg [.int .i64 op,.int .i64 F,R,q3]).fld 2).els=P from q.els]at I
 have ba:gD ns.els i=P.map fun x=>x.num.toNat:=by rw [gD,r.els,aa];exact congrArg _ q.els
 have au:JX ns.els fs.els (.agg [.int .i64 (i:Nat),b,d])=(P.map fun x=>x.num.toNat).drop xd.length++sJ ns.els fs.els i:=by
  rw [JX,KA,show ((AV.agg [.int .i64 (i:Nat),b,d]).fld 0).num=(i:Nat) from rfl,show ((AV.agg [.int .i64 (i:Nat),b,d]).fld 2).els=xd from af.els,Int.toNat_natCast,ba]
 rw [au]at hr
 have E:∀ {b n:Nat} {p p1:List Nat} {low:Nat} {o':Tr AObj},b<ns.els.length->Run (mL ns.els fs.els) (aO M p) [b] p1->n0<=n->o'.get c=some (aQ 0 [ns,fs,mm,cs,.sl m g 0 M.length (.is M.length)])->o'.get m=some (aQ g (aI (aO M p)))->orcL [bG 101 (ZT ns fs mm cs ns.els.length)] 101 [.ptr c 0 0,.int .i64 (b:Nat)] ⟨n,low,o'⟩=some (.ret (.tuple []) (some ⟨n,Nat.min m low,o'.set m (aQ g (aI (aO M (p++p1))))⟩)):=fun {b n p p1 low o'} hb u1 hn q1 R=>by
  have V:(aO M p).length=M.length:=bK _ _;have hC:CoS ns fs mm cs c m g (aO M p) ⟨n,low,o'⟩:=CoS.mk' aC aC (by rw [V];exact q1) R (by rw [V];exact h3) h4;have:=SM hC u1 (HW hp hg ns.els.length hC aC u1 (by have:=pL (aO M p);omega)) [];rw [Sto.put_any,bQ]at this;exact this
 refine CT @eP @ao @ap af.lX ?_
 refine aL (fun j e=>∃ t low o p rest,e=⟨68,none,100,t,[],⟨n0+1,low,o⟩,.no⟩/\t.val 0=.ptr c 0 0/\t.val 3=.ptr n0 0 0/\t.val 4=.int .i64 (j:Nat)/\o.get n0=some (aQ 0 [.int .i64 (i:Nat),b,d])/\o.get m=some (aQ g (aI (aO M p)))/\m<=low/\(∀ id,id<n0->id≠m->o.get id=o0.get id)/\Run (mL ns.els fs.els) (aO M p) ((P.map fun x=>x.num.toNat).drop j++sJ ns.els fs.els i) rest/\out=p++rest) (fun j=>P.length-j) xd.length
  ⟨_,_,_,[],out,rfl,aG,aG,aG,aG,by rw [Tr.get_set_ne _ _ aC];exact h2,?_,fun id D w=>Tr.get_set_ne _ _ aC,hr,rfl⟩ ?_
 ·omega
 rintro j _ ⟨t,low,o,p,rest,rfl,t0,t3,t4,S,gm,B,C,l,ho⟩;have Q:=(C c hc (Ne.symm h4)).trans h1
 rcases Nat.lt_or_ge j P.length with bb | aw
 ·obtain ⟨x,aj,bd,bl,ar,az,bg,aq⟩:=bB (k:=1) (fun x h=>tu_int.len h) al q.2 bb
  have bh:=I x bd;rw [<-List.map_drop,ar,List.map_cons]at l;obtain ⟨z,rfl⟩:=aj;rw [show (AV.int .i64 z).num=z from rfl]at bh l
  obtain ⟨e,rfl⟩:∃ e:Nat,z=(e:Nat):=⟨z.toNat,aC⟩
  rw [Int.toNat_natCast]at l;change Run _ _ ([e]++_) _ at l;obtain ⟨p1,p2,u1,u2,u3⟩:=l.split [e] _ rfl;rw [bQ]at u2;have J:=E (low:=low) (show e<ns.els.length by omega) u1 (show n0<=n0+1 by omega) Q gm;refine PK @t0 @t3 @t4 @S @Q @fc @eP r.iX @G q.lX q.iX q.sX @az @bg @aq @J @d2 ?_;exact ⟨j+1,by show _-_<_-_;omega,_,_,_,p++p1,p2,rfl,aM @t0,aM @t3,aG,by rw [Tr.get_set_ne _ _ aC];exact S,Tr.get_set_same _ _ _,Nat.le_min.2 ⟨Nat.le_refl _,B⟩,fun id D w=>by rw [Tr.get_set_ne _ _ w];exact C id D w,by rw [<-List.map_drop];exact u2,by rw [ho,u3,List.append_assoc]⟩
 ·have k1:(((j:Nat):Int)<((P.length:Nat):Int))=False:=eq_false aC
  have w2:=fun {n:Nat}=>(aT _ ac).1.mono (Nat.zero_le n)
  have w3:=fun {n:Nat}=>(eG _ ae).1.mono (Nat.zero_le n)
  rw [List.drop_of_length_le (by rw [List.length_map];exact aw),List.nil_append,sJ,r.els,aa,show ((AV.agg [.int .i64 op,.int .i64 F,R,q3]).fld 0).num=op from rfl,show ((AV.agg [.int .i64 op,.int .i64 F,R,q3]).fld 1).num=F from rfl]at l
  have H:∀ {u:Nat} {x y:AObj},m<=u->rest=[]->JC ⟨n0,ah,o0⟩ m (aQ g (aI (aO M out))) (.tuple []) ⟨n0+1+1,u,(o.set (n0+1) x).set (n0+1) y⟩ (.tuple []):=fun {u x y} hl X=>by
   rw [X,List.append_nil]at ho;rw [ho]
   exact eU hm aC hl (by rw [Tr.get_set_ne _ _ aC,Tr.get_set_ne _ _ aC];exact gm) fun id D w=>by rw [Tr.get_set_ne _ _ aC,Tr.get_set_ne _ _ aC];exact C id D w
  by_cases h5:op=4
  ·subst h5
   by_cases T:F<0
   ·rw [if_pos ⟨rfl,T⟩]at l
    have bi:-1-F<(xf.length:Int):=by
     have:=hg.nam (.agg [.int .i64 4,.int .i64 F,R,q3]) (r.els ▸ be) rfl (by exact T);rw [A.els]at this;exact this
    have bf:IntKind.i64.wrap (-1-F)=(((-1-F).toNat:Nat):Int):=by
     have:=A.2;rw [IntWalk.i64_in _ aC];omega
    obtain ⟨v,ai,bc,av,_,ax,_,_⟩:=bB (k:=1) (fun x h=>tu_int.len h) ak A.2 (show (-1-F).toNat<xf.length by omega);have an:=hg.bod v (A.els ▸ bc);rw [A.els,List.getD_eq_getElem?_getD,av]at l;obtain ⟨z,rfl⟩:=ai;rw [show (AV.int .i64 z).num=z from rfl]at an
    obtain ⟨e,rfl⟩:∃ e:Nat,z=(e:Nat):=⟨z.toNat,aC⟩
    change Run _ (aO M p) [e] rest at l;rw [<-r.els,<-A.els]at l
    have J:∀ {u:Nat} {x y:AObj},orcL [bG 101 (ZT ns fs mm cs ns.els.length)] 101 [.ptr c 0 0,.int .i64 (e:Nat)] ⟨n0+1+1,u,(o.set (n0+1) x).set (n0+1) y⟩=_:=fun {u x y}=>E (low:=u) (o':=(o.set (n0+1) x).set (n0+1) y) (show e<ns.els.length by omega) l (show n0<=n0+1+1 by omega) (by rw [Tr.get_set_ne _ _ aC,Tr.get_set_ne _ _ aC];exact Q) (by rw [Tr.get_set_ne _ _ aC,Tr.get_set_ne _ _ aC];exact gm)
    simp +contextual +decide (maxSteps:=1000000) only [↓ wP,wQ,tf,Nat.reduceAdd,wS,t0,t3,t4,S,Q,fc,eP,r.idx,G,O,q.len,q.stab,k1,d2,d3,w2,w3,T,bf,A.idx,ax,J];rw [ho]
    exact eU hm aC (Nat.le_min.2 ⟨Nat.le_refl _,Nat.le_min.2 ⟨aC,B⟩⟩) (Tr.get_set_same _ _ _) fun id D w=>by rw [Tr.get_set_ne _ _ w,Tr.get_set_ne _ _ aC,Tr.get_set_ne _ _ aC];exact C id D w
   ·rw [if_neg fun e=>T e.2]at l
    have X:rest=[]:=by cases l;rfl
    refine HB @t0 @t3 @t4 @S @Q @fc @eP r.iX @G @O q.lX q.sX @k1 @d2 @d3 @w2 @w3 @T ?_;exact H (Nat.le_min.2 ⟨aC,B⟩) X
  ·rw [if_neg fun e=>h5 e.1]at l
   have X:rest=[]:=by cases l;rfl
   refine HB @t0 @t3 @t4 @S @Q @fc @eP r.iX @G @O q.lX q.sX @k1 @d2 @d3 @w2 @w3 @h5 ?_;exact H (Nat.le_min.2 ⟨aC,B⟩) X
end
end
end Go.Proofs.YtdipddlhenoglaaGreat
/-
 The marks of code,in plain words.
-/
namespace Go.Abs
theorem HX {g c:Nat->List Nat} (h:∀ n y,y∈g n->y∈c n) {a b:Nat} (e:Way g a b):Way c a b:=by
 induction e with
 | refl _=>exact .refl _
 | step d _ f=>exact .step (h _ _ d) f
end Go.Abs
namespace Go.Proofs.YtdipddlhenoglaaGreat
open Go.Abs Go Go.Abs.TryzF
noncomputable section
set_option maxRecDepth 10000
theorem DI {ns fs:List AV} {n y:Nat}:y∈mM ns fs n↔y∈mL ns fs n:=by
 rw [mM,mL,List.mem_append,List.mem_append];exact Or.comm
theorem WW {ns fs:List AV} {a b:Nat}:Abs.Way (mM ns fs) a b↔Abs.Way (mL ns fs) a b:=
 ⟨HX fun _ _=>DI.1,HX fun _ _=>DI.2⟩
theorem HY {g:Nat->List Nat} {N:Nat} {t out a:List Nat} (e:Run g (List.replicate N false) t out) (d:∀ x∈out,x<N) (c:∀ x∈a,x<N) {x:Nat}:(aO (aO (List.replicate N false) out) a)[x]?=some true↔(∃ y∈t,Abs.Way g y x)∨x∈a:=by
 rw [xI,xI,bK,List.length_replicate]
 have b:(List.replicate N false)[x]?≠some true:=by
  rw [List.getElem?_replicate];split<;>simp
 rw [<-e.iff];constructor
 ·rintro ((h | ⟨h,_⟩) | ⟨h,_⟩)
  ·exact (b h).elim
  ·exact .inl h
  ·exact .inr h
 ·rintro (h | h)
  ·exact .inl (.inr ⟨h,d x h⟩)
  ·exact .inr ⟨h,c x h⟩
section
variable {ns fs mm cs:AV}
def SO (ns fs:List AV) (o:AV):List Nat:=(o.fld 3).els.flatMap (JX ns fs)++(DJ fs (bS o)++JZ ns o)
theorem aPq (w:dD (.agg [ns,fs,mm,cs])) (v:GP ns.els fs.els) {c m g:Nat} {M:List Bool} {f:AV} {out:List Nat} {s:Sto} (h:CoS ns fs mm cs c m g M s) (u:TFr f) (a:0<=(f.fld 0).num/\(f.fld 0).num<ns.els.length) (b:Run (mL ns.els fs.els) M (JX ns.els fs.els f) out) (L:List kG):
 orcL (bG 100 (RFr ns fs mm cs)::L) 100 [.ptr c 0 0,f] s=some (.ret (.tuple []) (some (s.put m (aQ g (aI (aO M out)))))):=by
 obtain ⟨res,k,l⟩:=dX (f:=100) (SN w v h u a b);obtain ⟨A,D,C,y,B,d,e,o,q,r,_⟩:=k;simp only [List.cons.injEq,AV.ptr.injEq,and_true]at e;obtain ⟨rfl,rfl⟩:=e;obtain ⟨rfl,rfl,rfl⟩:=h.uniq o;obtain rfl:=b.det q;rw [l L,r]
def aEn (ns fs mm cs:AV) (args:List AV) (s:Sto) (res:CRes):Prop:=∃ c m g M o out,args=[.ptr c 0 0,o]/\CoS ns fs mm cs c m g M s/\OkO ns.els fs.els o/\Run (mL ns.els fs.els) M (SO ns.els fs.els o) out/\res=.ret (.tuple []) (some (s.put m (aQ g (aI (aO M out)))))/\bO Tryz.prog 67 args s res
theorem aEo:bM Tryz.prog (bG 67 (aEn ns fs mm cs)):=eO fun _ _ _ h=>by obtain ⟨_,_,_,_,_,_,_,_,_,_,_,h⟩:=h;exact h
set_option maxHeartbeats 8000000 in
theorem ZU (hp:dD (.agg [ns,fs,mm,cs])) (hg:GP ns.els fs.els) {c m g:Nat} {M:List Bool} {o:AV} {out:List Nat} {s:Sto} (h:CoS ns fs mm cs c m g M s) (ho:OkO ns.els fs.els o) (hr:Run (mL ns.els fs.els) M (SO ns.els fs.els o) out):∃ res,aEn ns fs mm cs [.ptr c 0 0,o] s res:=by
 refine ⟨_,c,m,g,M,o,out,rfl,h,ho,hr,rfl,?_⟩;obtain ⟨h1,h2,h3,h4⟩:=h;refine iR (L:=[ent 88 nI,bG 100 (RFr ns fs mm cs),bG 101 (ZT ns fs mm cs ns.els.length)]) (elist_cons qvalV_ok.ent (elist_cons aPp (elist_cons SL aE))) aN (by kernel_rfl) Tryz.func67 Tryz.ntmps67 Tryz.results67 rfl rfl (Sto.get_lt h2) iU ?_;obtain ⟨n0,bs,o0⟩:=s;have hm:m<n0:=Sto.get_lt h2;have hc:c<n0:=Sto.get_lt h1;rw [Sto.get_mk hc]at h1;rw [Sto.get_mk hm]at h2;have fc:=dO hc;have fm:=dO hm;have hT:=ho.good.1;have bn:nI [o]=some (dR (bS o)):=cR ho.good;have ac:=ho.frm;obtain ⟨f0,f1,G,H,rfl,⟨op,rfl⟩,⟨u,rfl⟩,hv,hf⟩:=id hT;have d2:=(tu_vals _ hv).2;have d3:=(gZ _ hf).2;obtain ⟨U,E,ae⟩:=hf;rw [show ((AV.agg [.int .i64 op,.int .i64 u,G,H]).fld 3).els=U from E.els]at ac;rw [SO,show ((AV.agg [.int .i64 op,.int .i64 u,G,H]).fld 3).els=U from E.els]at hr;refine JA @d2 @d3 ?_
 refine aL (fun i e=>∃ t low o p rest,e=⟨66,none,67,t,[],⟨n0+1,low,o⟩,.no⟩/\t.val 0=.ptr c 0 0/\t.val 3=.ptr n0 0 0/\t.val 4=.int .i64 (i:Nat)/\o.get n0=some (aQ 0 [.int .i64 op,.int .i64 u,G,H])/\o.get m=some (aQ g (aI (aO M p)))/\m<=low/\(∀ id,id<n0->id≠m->o.get id=o0.get id)/\Run (mL ns.els fs.els) (aO M p) ((U.drop i).flatMap (JX ns.els fs.els)++(DJ fs.els (bS (.agg [.int .i64 op,.int .i64 u,G,H]))++JZ ns.els (.agg [.int .i64 op,.int .i64 u,G,H]))) rest/\out=p++rest/\i<=U.length) (fun i=>U.length-i) 0
  ⟨_,_,_,[],out,rfl,aG,aG,eA,aG,by rw [Tr.get_set_ne _ _ aC];exact h2,?_,fun id C w=>Tr.get_set_ne _ _ aC,hr,rfl,Nat.zero_le _⟩ ?_
 ·omega
 rintro i _ ⟨t,low,o,p,rest,rfl,Y,S,t4,R,Z,r,q,l,A,hi⟩;have gc:=(q c hc (Ne.symm h4)).trans h1
 rcases Nat.lt_or_ge i U.length with D | af
 ·obtain ⟨f,al,bm,bu,be,bi,bp,bd⟩:=bB (k:=3) (fun x h=>tk_fr.len h) ae E.2 D
  have bg:=ac f bm
  have av:=fun {d:Option AV}=>tk_fr.pf al (d:=d)
  rw [be,List.flatMap_cons,List.append_assoc]at l;obtain ⟨p1,p2,u1,u2,u3⟩:=l.split (JX ns.els fs.els f) _ rfl;rw [bQ]at u2;have I:(aO M p).length=M.length:=bK _ _;have hC:CoS ns fs mm cs c m g (aO M p) ⟨n0+1,low,o⟩:=CoS.mk' aC aC (by rw [I];exact gc) Z (by rw [I];exact h3) h4;have B:=aPq hp hg hC al bg u1 [bG 101 (ZT ns fs mm cs ns.els.length)];rw [Sto.put_any,bQ]at B;have am:orcL [ent 88 nI,bG 100 (RFr ns fs mm cs),bG 101 (ZT ns fs mm cs ns.els.length)] 100 [.ptr c 0 0,f] ⟨n0+1,low,o⟩=_:=B;refine HA @Y @S @t4 @R @eP E.lX E.iX @bi @bp @bd @av @am ?_;exact ⟨i+1,by show _-_<_-_;omega,_,_,_,p++p1,p2,rfl,aM @Y,aM @S,aG,by rw [Tr.get_set_ne _ _ aC];exact R,Tr.get_set_same _ _ _,Nat.le_min.2 ⟨Nat.le_refl _,r⟩,fun id C w=>by rw [Tr.get_set_ne _ _ w];exact q id C w,u2,by rw [A,u3,List.append_assoc],D⟩
 ·obtain rfl:i=U.length:=Nat.le_antisymm hi af
  rw [List.drop_length]at l;change Run _ _ (DJ fs.els _++_) rest at l;have k1:(((U.length:Nat):Int)<((U.length:Nat):Int))=False:=eq_false (Int.lt_irrefl _);have bx:=ho.good.2.2;have bo:=ho.val;have bk:=ho.knd;have bb:∀ v∈bS (.agg [.int .i64 op,.int .i64 u,G,H]),tJ v:=iC (nK hT);have F:Sl (dR (bS (.agg [.int .i64 op,.int .i64 u,G,H]))) (bS (.agg [.int .i64 op,.int .i64 u,G,H])):=lM aC;obtain ⟨a0,a1,a2,a3,e,au,ao,bv,bt⟩:=id hp;simp only [AV.agg.injEq,List.cons.injEq,and_true]at e;obtain ⟨rfl,rfl,rfl,rfl⟩:=e;have c0:=(bP _ au).2;have c1:=(aT _ ao).2;obtain ⟨xn,Q,ba⟩:=au;obtain ⟨xf,P,ae⟩:=ao
  have J:∀ {b:Nat} {p p1:List Nat} {low:Nat} {o':Tr AObj},b<ns.els.length->Run (mL ns.els fs.els) (aO M p) [b] p1->o'.get c=some (aQ 0 [ns,fs,mm,cs,.sl m g 0 M.length (.is M.length)])->o'.get m=some (aQ g (aI (aO M p)))->orcL [ent 88 nI,bG 100 (RFr ns fs mm cs),bG 101 (ZT ns fs mm cs ns.els.length)] 101 [.ptr c 0 0,.int .i64 (b:Nat)] ⟨n0+1,low,o'⟩=some (.ret (.tuple []) (some ⟨n0+1,Nat.min m low,o'.set m (aQ g (aI (aO M (p++p1))))⟩)):=fun {b p p1 low o'} hb u1 q1 q2=>by
   have I:(aO M p).length=M.length:=bK _ _;have hC:CoS ns fs mm cs c m g (aO M p) ⟨n0+1,low,o'⟩:=CoS.mk' aC aC (by rw [I];exact q1) q2 (by rw [I];exact h3) h4;have:=SM hC u1 (HW hp hg ns.els.length hC aC u1 (by have:=pL (aO M p);omega)) [];rw [Sto.put_any,bQ]at this;exact this
  have bl:JZ ns.els (.agg [.int .i64 op,.int .i64 u,G,H])=if op=2 then [((gD ns.els u.toNat).getD 0 0)] else []:=rfl
  have ap:op=2->0<=u/\u<ns.els.length/\0<(gD ns.els u.toNat).length:=bk;generalize bS (.agg [.int .i64 op,.int .i64 u,G,H])=T at *;generalize JZ ns.els (.agg [.int .i64 op,.int .i64 u,G,H])=kl at *;refine UN @S @t4 @R @eP E.lX @k1 @bn ?_
  refine aL (fun j e=>∃ t low o p rest,e=⟨66,none,67,t,[],⟨n0+1,low,o⟩,.no⟩/\t.val 0=.ptr c 0 0/\t.val 3=.ptr n0 0 0/\t.val 5=dR T/\t.val 6=.int .i64 (j:Nat)/\o.get n0=some (aQ 0 [.int .i64 op,.int .i64 u,G,H])/\o.get m=some (aQ g (aI (aO M p)))/\m<=low/\(∀ id,id<n0->id≠m->o.get id=o0.get id)/\Run (mL ns.els fs.els) (aO M p) (DJ fs.els (T.drop j)++kl) rest/\out=p++rest/\j<=T.length) (fun j=>T.length-j) 0
   ⟨_,_,_,p,rest,rfl,aM @Y,aM @S,aG,eA,R,Z,r,q,l,A,Nat.zero_le _⟩ ?_
  clear Y S t4 R Z r q l A gc p rest;rintro j _ ⟨t,low,o,p,rest,rfl,Y,S,t5,t6,R,Z,r,q,l,A,hj⟩;have gc:=(q c hc (Ne.symm h4)).trans h1
  rcases Nat.lt_or_ge j T.length with D | af
  ·obtain ⟨y,V,ar,ah,bf,N,ax,an⟩:=bB (k:=2) (fun x h=>tk_val.len h) bb (show T.length<=9223372036854775807 by omega) D
   have aw:=bo y ar;rw [bf,HZ]at l;obtain ⟨a,b,rfl,⟨ka,rfl⟩,⟨kb,rfl⟩⟩:=V;rw [show ((AV.agg [.int .i64 ka,.int .i64 kb]).fld 0).num=ka from rfl,show ((AV.agg [.int .i64 ka,.int .i64 kb]).fld 1).num=kb from rfl]at aw l;by_cases h5:ka=4
   ·subst h5
    rw [if_pos rfl]at l;obtain ⟨b1,b2⟩:=aw rfl;rw [P.els]at b2 l;obtain ⟨z,ad,aj,ai,_,O,_,_⟩:=bB (k:=1) (fun x h=>tu_int.len h) ae P.2 (show kb.toNat<xf.length by omega)
    have bj:((kb.toNat:Nat):Int)=kb:=by omega
    rw [bj]at O;have ak:=hg.bod z (P.els ▸ aj);rw [List.getD_eq_getElem?_getD,ai]at l;obtain ⟨z,rfl⟩:=ad;rw [show (AV.int .i64 z).num=z from rfl]at ak
    obtain ⟨b,rfl⟩:∃ b:Nat,z=(b:Nat):=⟨z.toNat,aC⟩
    change Run _ _ ([b]++(DJ xf (T.drop (j+1))++kl)) _ at l;rw [<-P.els]at l;obtain ⟨p1,p2,u1,u2,u3⟩:=l.split [b] _ rfl;rw [bQ]at u2;have B:=J (low:=low) (show b<ns.els.length by omega) u1 gc Z;refine tI @Y @t5 @t6 @gc @fc F.lX F.iX @N @ax @an P.iX @O @B ?_;exact ⟨j+1,by show _-_<_-_;omega,_,_,_,p++p1,p2,rfl,aM @Y,aM @S,aM @t5,aG,by rw [Tr.get_set_ne _ _ aC];exact R,Tr.get_set_same _ _ _,Nat.le_min.2 ⟨Nat.le_refl _,r⟩,fun id C w=>by rw [Tr.get_set_ne _ _ w];exact q id C w,u2,by rw [A,u3,List.append_assoc],D⟩
   ·rw [if_neg h5]at l
    refine JB @t5 @t6 F.lX F.iX @N @ax @an @h5 ?_;exact ⟨j+1,by show _-_<_-_;omega,_,_,_,p,rest,rfl,aM @Y,aM @S,aM @t5,aG,R,Z,r,q,l,A,D⟩
  ·obtain rfl:j=T.length:=Nat.le_antisymm hj af
   rw [List.drop_length]at l;change Run _ _ kl rest at l;have k2:(((T.length:Nat):Int)<((T.length:Nat):Int))=False:=eq_false (Int.lt_irrefl _);subst bl;by_cases h5:op=2
   ·subst h5
    obtain ⟨b1,b2,b3⟩:=ap rfl;rw [Q.els]at b2;obtain ⟨y,V,ar,ah,_,N,_,_⟩:=bB (k:=4) (fun x h=>tk_node.len h) ba Q.2 (show u.toNat<xn.length by omega)
    have bc:((u.toNat:Nat):Int)=u:=by omega
    rw [bc]at N
    have bh:xn.getD u.toNat .top=y:=by rw [List.getD_eq_getElem?_getD,ah];rfl
    have av:=fun {d:Option AV}=>tk_node.pf V (d:=d)
    have ab:=hg.kid u.toNat y (Q.els ▸ ah);obtain ⟨q0,q1,q2,q3,rfl,⟨br,rfl⟩,⟨ay,rfl⟩,aq,bw⟩:=V;have e2:=(aT _ aq).2;obtain ⟨xk,X,az⟩:=aq;rw [show ((AV.agg [.int .i64 br,.int .i64 ay,q2,q3]).fld 2).els=xk from X.els]at ab
    have aa:gD ns.els u.toNat=xk.map fun x=>x.num.toNat:=by rw [gD,Q.els,bh];exact congrArg _ X.els
    rw [aa,List.length_map]at b3;obtain ⟨z,ad,aj,ai,_,O,_,_⟩:=bB (k:=1) (fun x h=>tu_int.len h) az X.2 b3;have bq:=ab z aj;rw [if_pos rfl,aa,List.getD_eq_getElem?_getD,List.getElem?_map,ai]at l;obtain ⟨z,rfl⟩:=ad;rw [show (AV.int .i64 z).num=z from rfl]at bq
    obtain ⟨b,rfl⟩:∃ b:Nat,z=(b:Nat):=⟨z.toNat,aC⟩
    change Run _ _ [b] _ at l;have ak:((0:Nat):Int)=0:=rfl;rw [ak]at O;have B:=J (low:=low) (show b<ns.els.length by omega) l gc Z;refine AC @Y @S @t5 @t6 @R @gc @fc @eP F.lX @k2 Q.iX @N X.iX @O @B @e2 ?_;rw [A]
    exact eU hm aC (Nat.le_min.2 ⟨Nat.le_refl _,r⟩) (Tr.get_set_same _ _ _) fun id C w=>by rw [Tr.get_set_ne _ _ w];exact q id C w
   ·rw [if_neg h5]at l
    obtain rfl:rest=[]:=by cases l;rfl
    refine JB @S @t5 @t6 @R @eP F.lX @k2 @h5 ?_;rw [A,List.append_nil];exact eU hm aC r Z q
end
end
end Go.Proofs.YtdipddlhenoglaaGreat
