/-
  What the isle of a task can do, by the program.
-/
import Derived.Test.YtdipddlhenoglaaGreatSrtLayO
set_option linter.unusedVariables false
set_option linter.unusedSimpArgs false
namespace Go.Proofs.YtdipddlhenoglaaGreat
open Go.Abs Go Go.Abs.TryzF
noncomputable section
set_option maxRecDepth 10000
def cM (ns:List AV) (i:Nat):Int:=((ns.getD i .top).fld 0).num
def lH (ns:List AV) (i:Nat):Int:=((ns.getD i .top).fld 1).num
def CC (ns:List AV) (l:List Nat):List Int:=(l.filter fun i=>mG (cM ns i)).map (cM ns)
def lZ (ns:List AV) (l:List Nat):List Int:=(l.filter fun i=>decide (cM ns i=24)).map (lH ns)
theorem zJ {l:List Nat} {i x:Nat} (h:l[i]?=some x):l.take (i+1)=l.take i++[x]:=by rw [List.take_add_one,h];rfl
theorem ZI {ns:List AV} {l:List Nat} {x:Nat}:CC ns (l++[x])=CC ns l++(if mG (cM ns x)=true then [cM ns x] else []):=by
 rw [CC,List.filter_append,List.map_append,CC,List.filter_cons,List.filter_nil];split<;>rfl
theorem NU {ns:List AV} {l:List Nat} {x:Nat}:lZ ns (l++[x])=lZ ns l++(if cM ns x=24 then [lH ns x] else []):=by
 rw [lZ,List.filter_append,List.map_append,lZ,List.filter_cons,List.filter_nil];by_cases h:cM ns x=24<;>simp [h]
theorem NV (ns:List AV) (l:List Nat):(CC ns l).length<=l.length:=by rw [CC,List.length_map];exact List.length_filter_le _ _
theorem DE (ns:List AV) (l:List Nat):(lZ ns l).length<=l.length:=by rw [lZ,List.length_map];exact List.length_filter_le _ _
def zA (a:List Int):AV:=dR (cC a)
abbrev aDy (p os ts us is no:AV) (n:Int) (M:List Bool):List kG:=[ent 31 SZ,eZ 58 [p,dP os ts us is no,.int .i64 n] (.fz (aI M) false),eZ 42 [.fz (aI M) false] (aW (cB M M.length)),ent 59 AU,bG 60 DH,bG 61 DS]
section
variable {p os ts us is no:AV}
def aDz (ns:List AV) (M:List Bool) (b:Bool):AV × AV:=if b=true then (zA (oE (gJ (CC ns (cB M M.length)))),zA (oE (gJ (lZ ns (cB M M.length))))) else (.nils,.nils)
set_option maxHeartbeats 8000000 in
theorem WT (hp:dD p) (hg:WG os ts us is no) (n:Int) {M:List Bool} (hM:M.length<=300) (hc:qU p (dP os ts us is no) n=true->M.length=(p.fld 0).els.length/\Abs.Returns Tryz.prog 58 [p,dP os ts us is no,.int .i64 n] (.fz (aI M) false)):
 Abs.Returns Tryz.prog 21 [p,dP os ts us is no,.int .i64 n] (.tuple [(aDz (p.fld 0).els M (qU p (dP os ts us is no) n)).1,(aDz (p.fld 0).els M (qU p (dP os ts us is no) n)).2,iO (qU p (dP os ts us is no) n)]):=by
 have bf:=(cL p hp).1;have bg:=hg.und;obtain ⟨c0,c1,c2,c3,c4⟩:=hg.cells;have e1:SZ [p,dP os ts us is no,.int .i64 n]=some (.bool (qU p (dP os ts us is no) n)):=kP ⟨hp,hg.wd,n,rfl⟩;have bp:=mY M M.length;have am:=IC (M:=M) aC;have hu:=aA bf.und (aA bg.und (aA (show UnderE 0 (AV.int .i64 n) from ⟨1,rfl⟩).und aD))
 cases hb:qU p (dP os ts us is no) n with
 | false=>
   rw [hb]at e1;obtain ⟨_,ps,rfl,an,bb⟩:=cL p hp;refine aF (L:=[ent 31 SZ]) (elist_cons asked_ok.ent aE) aN (by kernel_rfl) Tryz.func21 Tryz.ntmps21 Tryz.results21 rfl rfl hu (kU (by unfold aDz;exact aA fB (aA fB (aA aV aD)))) ?_;simp +contextual +decide (maxSteps:=1000000) only [↓ wP,wQ,tf,Nat.reduceAdd,wS,c0,c1,c2,c3,c4,an,bb,e1,iO];rfl
 | true=>
   rw [hb]at e1;obtain ⟨ai,aj⟩:=hc hb;refine bU (L:=aDy p os ts us is no n M) (elist_cons asked_ok.ent (elist_cons (bL aj) (elist_cons (bL am) (elist_cons seen_ok.ent (elist_cons ZO (elist_cons aEg aE)))))) aN (by kernel_rfl) Tryz.func21 Tryz.ntmps21 Tryz.results21 rfl rfl hu ?_;clear hc aj am
   have ar:∀ x∈cB M M.length,x<M.length:=fun x hx=>List.mem_range.1 (List.mem_filter.1 hx).1
   have S:=fZ (l:=cB M M.length) aC;have bl:(aW (cB M M.length)).isCell=true:=cY;rw [aDz,if_pos rfl];obtain ⟨ns,fs,mm,cs,rfl,a0,a1,a2,a3⟩:=hp;rw [show (AV.agg [ns,fs,mm,cs]).fld 0=ns from rfl]at ai ⊢;have d0:=(bP _ a0).2;have d1:=(aT _ a1).2;have d2:=(tu_int _ a2).2;have d3:=(cJ _ a3).2;obtain ⟨A,G,au⟩:=a0;rw [G.els]at ai ⊢;refine CE @c0 @c1 @c2 @c3 @c4 @d0 @d1 @d2 @d3 @e1 @eC @jP S.lX @aS ?_;generalize cB M M.length=CL at *
   refine aL (fun i e=>∃ t b low o v w,e=⟨59,none,21,t,[],⟨b,low,o⟩,.no⟩/\t.val 3=.ptr 0 0 0/\t.val 9=v/\t.val 10=w/\t.val 23=aW CL/\t.val 24=.int .i64 (CL.length:Nat)/\t.val 25=.int .i64 (i:Nat)/\o.get 0=some (aQ 0 [ns,fs,mm,cs])/\2<=b/\Acc2 2 v w b o (CC A (CL.take i)) (lZ A (CL.take i))/\i<=CL.length) (fun i=>CL.length-i) 0
    ⟨_,_,_,_,.nils,.nils,rfl,aG,aG,aG,aG,aG,eA,qO,Nat.le_refl _,⟨⟨.inl ⟨rfl,rfl⟩,fun _ _ _ _ e=>by cases e⟩,⟨.inl ⟨rfl,rfl⟩,fun _ _ _ _ e=>by cases e⟩,fun j e=>by cases e⟩,Nat.zero_le _⟩ ?_
   rintro i _ ⟨t,b,low,o,v,w,rfl,t3,t9,I,D,C,T,g0,hn,R,hi⟩;have f0:=dO (show 0<b by omega)
   rcases Nat.lt_or_ge i CL.length with E | aw
   ·have al:=List.getElem?_eq_getElem E
    have bs:=ar _ (List.getElem_mem E);have be:CL.take (i+1)=CL.take i++[CL[i]]:=zJ al;generalize CL[i]=x at *;obtain ⟨y,ah,bq,ax,_,Y,_,bo⟩:=bB (k:=4) (fun x h=>tk_node.len h) au G.2 (show x<A.length by omega)
    have ak:A.getD x .top=y:=by rw [List.getD_eq_getElem?_getD,ax];rfl
    have Z:=fun {d:Option AV}=>tk_node.pf ah (d:=d)
    obtain ⟨q0,q1,q2,q3,rfl,⟨op,rfl⟩,⟨P,rfl⟩,ay,ba⟩:=ah;have e2:=(aT _ ay).2;have e3:=(eG _ ba).2
    have az:cM A x=op:=by rw [cM,ak];rfl
    have av:lH A x=P:=by rw [lH,ak];rfl
    have c:=ZI (ns:=A) (l:=CL.take i) (x:=x);have m:=NU (ns:=A) (l:=CL.take i) (x:=x);rw [az]at c m;rw [av]at m;rw [<-be]at c m
    have br:(CC A (CL.take i)).length<=i:=by have:=NV A (CL.take i);rw [List.length_take]at this;omega
    have an:(lZ A (CL.take i)).length<=i:=by have:=DE A (CL.take i);rw [List.length_take]at this;omega
    have X:=fun {q:IntKind} {d:Option AV}=>iQ (k:=1) (cP al) rfl (q:=q) (d:=d)
    have k3:(((i:Nat):Int)<((CL.length:Nat):Int))=True:=eq_true aC
    have ab:IntKind.i64.wrap ((i:Int)+1)=((i+1:Nat):Int):=by rw [IntWalk.i64_in _ aC];rfl
    have F:AU [.int .i64 op]=some (.bool (mG op)):=cR ⟨op,rfl⟩;have s1:∀ {a:AV},[AV.int .i64 0].set (0*1) a=[a]:=rfl
    have af:Acc2 2 v w (b+1) ((o.set b (aQ 0 [AV.int .i64 0,AV.int .i64 0,AV.nils,AV.nils])).set b (aQ 0 [AV.int .i64 op,AV.int .i64 P,q2,q3])) (CC A (CL.take i)) (lZ A (CL.take i)):=R.keep aC fun id J N=>by rw [Tr.get_set_ne _ _ aC,Tr.get_set_ne _ _ aC]
    have ac:((o.set b (aQ 0 [AV.int .i64 0,AV.int .i64 0,AV.nils,AV.nils])).set b (aQ 0 [AV.int .i64 op,AV.int .i64 P,q2,q3])).get 0=some (aQ 0 [ns,fs,mm,cs]):=by rw [Tr.get_set_ne _ _ aC,Tr.get_set_ne _ _ aC];exact g0
    have Q:((o.set b (aQ 0 [AV.int .i64 0,AV.int .i64 0,AV.nils,AV.nils])).set b (aQ 0 [AV.int .i64 op,AV.int .i64 P,q2,q3])).get b=some (aQ 0 [AV.int .i64 op,AV.int .i64 P,q2,q3]):=Tr.get_set_same _ _ _;have bm:=R.l.1.cell;have bn:=R.r.1.cell;generalize V:(o.set b (aQ 0 [AV.int .i64 0,AV.int .i64 0,AV.nils,AV.nils])).set b (aQ 0 [AV.int .i64 op,AV.int .i64 P,q2,q3])=o1 at *
    cases aa:mG op with
    | false=>
      have B:op≠24:=fun e=>by subst e;simp [mG]at aa
      rw [aa]at F c;rw [if_neg (by decide),List.append_nil]at c;rw [if_neg B,List.append_nil]at m;simp +contextual +decide (maxSteps:=1000000) only [↓ wP,wQ,tf,Nat.reduceAdd,wS,t3,D,C,T,g0,f0,eP,k3,S.idx,X,G.idx,Y,Z,F,jP,B,ab,V,e2,e3,Q];exact ⟨i+1,by show _-_<_-_;omega,_,_,_,_,v,w,rfl,aM @t3,aM @t9,aM @I,aM @D,aM @C,aG,ac,aC,by rw [c,m];exact af,E⟩
    | true=>
      rw [aa]at F c;rw [if_pos rfl]at c
      have ap:Acc2 2 v w (b+1+1) (o1.set (b+1) (aQ 0 [.int .i64 op])) _ _:=af.keep aC fun id J N=>Tr.get_set_ne _ _ aC
      obtain ⟨v',n2,U,o2,r1,r2,r3,r4,_,r6⟩:=ap.app (low:=b.min low) (by_:=8) op aC aC;have bh:=r2.l.1.cell
      have ad:o2.get b=some (aQ 0 [AV.int .i64 op,AV.int .i64 P,q2,q3]):=by rw [r6 _ aC (R.own (Nat.le_refl _)),Tr.get_set_ne _ _ aC];exact Q
      have ae:o2.get 0=some (aQ 0 [ns,fs,mm,cs]):=by rw [r4 0 aC,Tr.get_set_ne _ _ aC];exact ac
      have f2:=dO (show b<n2 by omega);by_cases B:op=24
      ·rw [if_pos B]at m
       have aq:Acc2 2 w v' (n2+1) (o2.set n2 (aQ 0 [.int .i64 P])) _ _:=r2.symm.keep aC fun id J N=>Tr.get_set_ne _ _ aC
       obtain ⟨w',n3,ao,o3,u1,u2,u3,u4,_⟩:=aq.app (low:=U) (by_:=8) P aC aC;have u5:=u2.symm;have bi:=u2.l.1.cell;subst B;simp +contextual +decide (maxSteps:=1000000) only [↓ wP,wQ,tf,Nat.reduceAdd,wS,t3,t9,I,D,C,T,g0,f0,eP,k3,S.idx,X,G.idx,Y,Z,F,jP,ab,V,e2,e3,Q,ad,f2,s1,r1,u1];exact ⟨i+1,by show _-_<_-_;omega,_,_,_,_,v',w',rfl,aM @t3,aG,aG,aM @D,aM @C,aG,by rw [u4 0 aC,Tr.get_set_ne _ _ aC];exact ae,aC,by rw [c,m];exact u5,E⟩
      ·rw [if_neg B,List.append_nil]at m
       simp +contextual +decide (maxSteps:=1000000) only [↓ wP,wQ,tf,Nat.reduceAdd,wS,t3,t9,D,C,T,g0,f0,eP,k3,S.idx,X,G.idx,Y,Z,F,jP,B,ab,V,e2,e3,Q,ad,f2,s1,r1];exact ⟨i+1,by show _-_<_-_;omega,_,_,_,_,v',w,rfl,aM @t3,aG,aM @I,aM @D,aM @C,aG,ae,aC,by rw [c,m];exact r2,E⟩
   ·obtain rfl:i=CL.length:=Nat.le_antisymm hi aw
    rw [List.take_length]at R;have k1:(((CL.length:Nat):Int)<((CL.length:Nat):Int))=False:=eq_false (Int.lt_irrefl _);have bc:=R.row (low:=low);have bd:=R.symm.row (low:=low);have hd:=R.d;have l1:=NV A CL;have l2:=DE A CL;clear R g0;refine CT @t9 @C @T @k1 ?_
    refine ZP (O:=orcL (aDy (.agg [ns,fs,mm,cs]) os ts us is no n M)) (fun a σ res h=>?_) bc aC fun so z1 z2=>?_
    ·obtain ⟨H,J,N⟩:=dX (f:=60) ⟨res,h⟩
     exact ⟨H,J,N [bG 61 DS]⟩
    rw [fA];have y1:=bd.keep z2 hd;clear z2;generalize so.getD _=u at *;obtain ⟨n1,bj,o1⟩:=u;refine wU @I ?_
    refine aEh (O:=orcL (aDy (.agg [ns,fs,mm,cs]) os ts us is no n M)) (fun a σ res h=>?_) y1 aC fun so z2 z3=>?_
    ·obtain ⟨H,J,N⟩:=dX (f:=61) ⟨res,h⟩
     exact ⟨H,J,N []⟩
    rw [fA]
    have y2:=z1.keep z3 fun j J N=>hd j N J
    clear z3;generalize so.getD _=u at *;obtain ⟨n2,U,o2⟩:=u;refine wU @t9 ?_;refine (kW (first:=[]) (cap:=[])).1 (ZQ (O:=orcL (aDy (.agg [ns,fs,mm,cs]) os ts us is no n M)) (fun _ _=>rfl) y2 (by rw [eB];omega) fun v' so p1 p2 p3=>?_);rw [fA];have y3:=z2.keep p2 hd;clear p2;generalize so.getD _=u at *;obtain ⟨n3,ao,o3⟩:=u;refine wU @I ?_;refine (kW (first:=[]) (cap:=[])).1 (ZR (O:=orcL (aDy (.agg [ns,fs,mm,cs]) os ts us is no n M)) (fun _ _=>rfl) y3 (by rw [eB];omega) fun w' so p4 p5 p6=>?_);rw [fA]
    have y4:=p1.keep p5 fun j J N=>hd j (p3 j N) J
    clear p5;generalize so.getD _=u at *;obtain ⟨n4,bk,o4⟩:=u;refine zI ?_
    refine .tuple _ _ rfl fun i x y hx hy=>?_
    match i with
    | 0=>cases hx;cases hy;exact y4.frz
    | 1=>cases hx;cases hy;exact p4.frz
    | 2=>cases hx;cases hy;exact .und _ aV
    | _+3=>simp at hx
end
def loT (v:AV) (n:Nat):Nat:=(vZ v).getD n
def HR (args:List AV) (s:Sto) (res:CRes):Prop:=∃ v x,args=[v,.int .i64 ((x:Nat):Int)]/\CD (loT v s.n) args s res
theorem aEa:bM Tryz.prog (bG 65 HR):=eO fun _ _ _ h=>by
 obtain ⟨_,_,_,h⟩:=h;obtain ⟨_,_,_,_,_,_,h⟩:=h;exact h
theorem aEb {lo:Nat} {s:Sto} {v:AV} {l:List Nat} (h:AccI lo v s.n s.o (aU l)) (r:lo<=s.n) (A:l.length<=900) (x:Nat):
 ∃ v' S,(AccI lo v' S.n S.o (aU (mN l x))/\s.n<=S.n/\(∀ id,id<lo->S.o.get id=s.o.get id))/\∀ L,orcL (bG 65 HR::L) 65 [v,.int .i64 (x:Nat)] s=some (.ret v' (some S)):=by
 have u:AccI (loT v s.n) v s.n s.o (aU l)/\lo<=loT v s.n/\loT v s.n<=s.n:=by
  rcases h with ⟨e,rfl⟩ | ⟨e,id,g,c,rfl,k,m,y,w⟩
  ·exact ⟨.inl ⟨e,rfl⟩,r,Nat.le_refl _⟩
  ·exact ⟨.inr ⟨e,id,g,c,rfl,k,m,Nat.le_refl _,w⟩,y,Nat.le_of_lt w⟩
 obtain ⟨k1,k2,k3⟩:=u;obtain ⟨a,r0⟩:=IH k1 k3 A x;obtain ⟨res,k,m⟩:=dX (f:=65) (R:=HR) ⟨a,v,x,rfl,r0⟩;obtain ⟨v0,H,b,v1,B,G,d,C,⟨v',S,rfl,D,E,F,_⟩,_⟩:=k;simp only [List.cons.injEq,AV.int.injEq,true_and,and_true]at b d;obtain ⟨rfl,b⟩:=b;obtain ⟨rfl,d⟩:=d
 obtain rfl:x=G:=by omega
 obtain rfl:l=B:=uM (AccI.uniq k1 C);refine ⟨v',S,⟨?_,E,fun id q=>F id (Nat.lt_of_lt_of_le q k2)⟩,m⟩
 exact D.imp (fun h=>h) fun ⟨a0,id,g,c,a1,a2,a3,a4,a5⟩=>⟨a0,id,g,c,a1,a2,a3,Nat.le_trans k2 a4,a5⟩
def evF (ns:List AV) (CL:List Nat) (k:Nat):List Nat:=(List.range k).filter fun j=>decide (16<=j)&&(CL.any (fun i=>decide (cM ns i=(j:Nat)))&&mG (j:Nat))
theorem WU (ns:List AV) (CL:List Nat) (k:Nat):(evF ns CL k).length<=k:=by
 have:=List.length_filter_le (fun j:Nat=>decide (16<=j)&&(CL.any (fun i=>decide (cM ns i=(j:Nat)))&&mG (j:Nat))) (List.range k);rw [List.length_range]at this;exact this
theorem aPm {ns:List AV} {CL:List Nat}:evF ns CL 16=[]:=by
 refine List.filter_eq_nil_iff.2 fun j a=>?_
 have:=List.mem_range.1 a;rw [decide_eq_false aC];simp
def eS (ns:List AV) (l:List Nat):List Nat:=(l.filter fun i=>decide (cM ns i=24)).map fun i=>(lH ns i).toNat
theorem NX {ns:List AV} {l:List Nat} {x:Nat}:eS ns (l++[x])=eS ns l++(if cM ns x=24 then [(lH ns x).toNat] else []):=by
 rw [eS,List.filter_append,List.map_append,eS,List.filter_cons,List.filter_nil];by_cases h:cM ns x=24<;>simp [h]
theorem HS (l:List Nat):(eT l).length<=l.length:=by
 have a:=(nH l [] List.nodup_nil).1
 have:=lD (cE (eT l)) (cE l) (List.pairwise_map.2 (a.imp fun h e=>h aC)) fun x b=>by
  obtain ⟨y,c,rfl⟩:=List.mem_map.1 b;exact List.mem_map.2 ⟨y,mX.1 c,rfl⟩
 simpa [cE] using this
theorem ZJ {l:List Nat} {x:Nat}:eT (l++[x])=mN (eT l) x:=by rw [eT,List.foldl_append];rfl
theorem DF (ns:List AV) (l:List Nat):(eS ns l).length<=l.length:=by rw [eS,List.length_map];exact List.length_filter_le _ _
section
variable {p os ts us is no:AV}
set_option maxHeartbeats 8000000 in
theorem aKp (hp:dD p) (hg:WG os ts us is no) (n:Int) {CL:List Nat} (aa:∀ x∈CL,x<(p.fld 0).els.length) (bc:CL.length<=300) (F:∀ x∈CL,cM (p.fld 0).els x=24->0<=lH (p.fld 0).els x) (S:Abs.Returns Tryz.prog 23 [p,dP os ts us is no,.int .i64 n] (aW CL)):
 Abs.Returns Tryz.prog 22 [p,dP os ts us is no,.int .i64 n] (.tuple [aW (evF (p.fld 0).els CL 29),aW (kB (eT (eS (p.fld 0).els CL)) 4)]):=by
 have bk:=(cL p hp).1;have bl:=hg.und;obtain ⟨c0,c1,c2,c3,c4⟩:=hg.cells;have hu:=aA bk.und (aA bl.und (aA (show UnderE 0 (AV.int .i64 n) from ⟨1,rfl⟩).und aD));refine bU (L:=[eZ 23 [p,dP os ts us is no,.int .i64 n] (aW CL),ent 64 AU,bG 65 HR,bG 66 mO]) (elist_cons (bL S) (elist_cons eventful_ok.ent (elist_cons aEa (elist_cons CO aE)))) aN (by kernel_rfl) Tryz.func22 Tryz.ntmps22 Tryz.results22 rfl rfl hu ?_;clear S;have m:=fZ (l:=CL) aC;have bq:(aW CL).isCell=true:=cY;obtain ⟨ns,fs,mm,cs,rfl,a0,a1,a2,a3⟩:=hp;rw [show (AV.agg [ns,fs,mm,cs]).fld 0=ns from rfl]at aa F ⊢;have d0:=(bP _ a0).2;have d1:=(aT _ a1).2;have d2:=(tu_int _ a2).2;have d3:=(cJ _ a3).2;obtain ⟨C,G,aq⟩:=a0;rw [G.els]at aa F ⊢;refine rA @c0 @c1 @c2 @c3 @c4 @d0 @d1 @d2 @d3 @eC ?_
 refine aL (fun k e=>∃ t M low o v,e=⟨82,none,22,t,[],⟨M,low,o⟩,.no⟩/\t.val 3=.ptr 0 0 0/\t.val 8=aW CL/\t.val 9=v/\t.val 10=.nils/\t.val 11=.int .i64 (k:Nat)/\o.get 0=some (aQ 0 [ns,fs,mm,cs])/\2<=M/\AccI 2 v M o (aU (evF C CL k))/\16<=k/\k<=29) (fun k=>29-k) 16
  ⟨_,_,_,_,.nils,rfl,aG,aG,aG,aG,eA,qO,Nat.le_refl _,.inl ⟨by rw [aPm];rfl,rfl⟩,Nat.le_refl _,by decide⟩ ?_
 rintro k _ ⟨t,M,low,o,v,rfl,E,A,I,c,f,g0,hn,hA,aw,hk⟩;have f0:=dO (show 0<M by omega)
 rcases Nat.lt_or_ge k 29 with ah | au
 ·have k1:(((k:Nat):Int)<=28)=True:=eq_true aC
  refine JA @f @k1 ?_
  refine aL (fun i e=>∃ t,e=⟨82,none,22,t,[],⟨M,low,o⟩,.no⟩/\t.val 3=.ptr 0 0 0/\t.val 8=aW CL/\t.val 9=v/\t.val 10=.nils/\t.val 11=.int .i64 (k:Nat)/\t.val 12=.bool ((CL.take i).any fun j=>decide (cM C j=(k:Nat)))/\t.val 13=.int .i64 (i:Nat)/\i<=CL.length) (fun i=>CL.length-i) 0
   ⟨_,rfl,aM @E,aM @A,aM @I,aM @c,aM @f,by rw [List.take_zero,List.any_nil];exact aG,eA,Nat.zero_le _⟩ ?_
  clear E A I c f;rintro i _ ⟨t,rfl,E,A,I,c,f,H,P,hi⟩
  rcases Nat.lt_or_ge i CL.length with B | af
  ·have T:=List.getElem?_eq_getElem B
   have am:=aa _ (List.getElem_mem B);have ak:CL.take (i+1)=CL.take i++[CL[i]]:=zJ T;generalize CL[i]=x at *;obtain ⟨y,R,bf,ae,_,V,_,bd⟩:=bB (k:=4) (fun x h=>tk_node.len h) aq G.2 am
   have ab:C.getD x .top=y:=by rw [List.getD_eq_getElem?_getD,ae];rfl
   have bh:=fun {d:Option AV}=>tk_node.pf R (d:=d)
   obtain ⟨q0,q1,q2,q3,rfl,⟨op,rfl⟩,⟨ag,rfl⟩,be,bg⟩:=R
   have ac:cM C x=op:=by rw [cM,ab];rfl
   have r:((CL.take (i+1)).any fun j=>decide (cM C j=(k:Nat)))=(((CL.take i).any fun j=>decide (cM C j=(k:Nat)))||decide (op=(k:Nat))):=by
    rw [ak,List.any_append,List.any_cons,List.any_nil,Bool.or_false,ac]
   generalize ((CL.take i).any fun j=>decide (cM C j=(k:Nat)))=b at *
   have U:=fun {q:IntKind} {d:Option AV}=>iQ (k:=1) (cP T) rfl (q:=q) (d:=d)
   have k3:(((i:Nat):Int)<((CL.length:Nat):Int))=True:=eq_true aC
   have O:IntKind.i64.wrap ((i:Int)+1)=((i+1:Nat):Int):=by rw [IntWalk.i64_in _ aC];rfl
   cases b with
   | true=>
     rw [Bool.true_or]at r;refine UN @A @H @P @k3 @aS m.lX @O ?_;exact ⟨i+1,by show _-_<_-_;omega,_,rfl,aM @E,aM @A,aM @I,aM @c,aM @f,by rw [r];exact aG,aG,B⟩
   | false=>
     rw [Bool.false_or]at r
     by_cases h5:op=(k:Nat)
     ·rw [decide_eq_true h5]at r
      subst h5;refine wV @E @A @f @H @P @g0 @f0 @k3 @aS m.lX m.iX @U G.iX @V @O ?_;exact ⟨i+1,by show _-_<_-_;omega,_,rfl,aM @E,aM @A,aM @I,aM @c,aM @f,by rw [r];exact aG,aG,B⟩
     ·rw [decide_eq_false h5]at r
      refine AC @E @A @f @H @P @g0 @f0 @k3 @aS m.lX m.iX @U G.iX @V @O @h5 ?_;exact ⟨i+1,by show _-_<_-_;omega,_,rfl,aM @E,aM @A,aM @I,aM @c,aM @f,by rw [r];exact aG,aG,B⟩
  ·obtain rfl:i=CL.length:=Nat.le_antisymm hi af
   rw [List.take_length]at H;have k3:(((CL.length:Nat):Int)<((CL.length:Nat):Int))=False:=eq_false (Int.lt_irrefl _)
   have al:IntKind.i64.wrap ((k:Int)+1)=((k+1:Nat):Int):=by rw [IntWalk.i64_in _ aC];rfl
   have aj:AU [.int .i64 (k:Nat)]=some (.bool (mG (k:Nat))):=cR ⟨_,rfl⟩;have D:evF C CL (k+1)=evF C CL k++(if (decide (16<=k)&&(CL.any (fun i=>decide (cM C i=(k:Nat)))&&mG (k:Nat)))=true then [k] else []):=lJ;rw [decide_eq_true aw,Bool.true_and]at D;have bs:=WU C CL k;have s1:∀ {a:AV},[AV.int .i64 0].set (0*1) a=[a]:=rfl;have br:=hA.cell;generalize (CL.any fun i=>decide (cM C i=(k:Nat)))=b at *;generalize mG (k:Nat)=b2 at *
   have ad:(b=true/\b2=true)∨(b&&b2)=false:=by cases b<;>cases b2<;>simp
   rcases ad with ⟨rfl,rfl⟩ | hb
   ·rw [Bool.and_self,if_pos rfl]at D
    have ba:AccI 2 v (M+1) (o.set M (aQ 0 [.int .i64 (k:Nat)])) _:=hA.keep (Nat.le_succ M) fun id _ h2=>Tr.get_set_ne _ _ aC
    obtain ⟨v',Y,u,Z,q1,q2,q3,q4,_⟩:=ba.app (low:=low) (by_:=8) dU (x:=.int .i64 (k:Nat)) rfl aC (by rw [aS];omega);refine CE @A @I @f @H @P @eP @k3 @aS m.lX @aj @jP @al @s1 @q1 ?_;exact ⟨k+1,by show _-_<_-_;omega,_,_,_,_,v',rfl,aM @E,aM @A,aG,aM @c,aG,by rw [q4 0 aC,Tr.get_set_ne _ _ aC];exact g0,aC,by rw [D,gI];exact q2,aC,ah⟩
   ·rw [hb,if_neg (by decide),List.append_nil]at D
    cases b with
    | true=>
      rw [Bool.true_and]at hb;rw [hb]at aj;refine rA @A @f @H @P @k3 @aS m.lX @aj @jP @al ?_;exact ⟨k+1,by show _-_<_-_;omega,_,_,_,_,v,rfl,aM @E,aM @A,aM @I,aM @c,aG,g0,hn,by rw [D];exact hA,aC,ah⟩
    | false=>
      refine JB @A @f @H @P @k3 @aS m.lX @al ?_;exact ⟨k+1,by show _-_<_-_;omega,_,_,_,_,v,rfl,aM @E,aM @A,aM @I,aM @c,aG,g0,hn,by rw [D];exact hA,aC,ah⟩
 ·obtain rfl:k=29:=Nat.le_antisymm hk au
  have k1:(((29:Nat):Int)<=28)=False:=eq_false aC;refine wU @f ?_;clear au hk aw
  refine aL (fun i e=>∃ t Y u Z w,e=⟨82,none,22,t,[],⟨Y,u,Z⟩,.no⟩/\t.val 3=.ptr 0 0 0/\t.val 8=aW CL/\t.val 9=v/\t.val 10=w/\t.val 14=.int .i64 (i:Nat)/\M<=Y/\(∀ id,id<M->Z.get id=o.get id)/\AccI M w Y Z (aU (eT (eS C (CL.take i))))/\i<=CL.length) (fun i=>CL.length-i) 0
   ⟨_,_,_,_,.nils,rfl,aM @E,aM @A,aM @I,aM @c,eA,Nat.le_refl _,fun _ _=>rfl,.inl ⟨rfl,rfl⟩,Nat.zero_le _⟩ ?_
  clear E A I c f;rintro i _ ⟨t,Y,u,Z,w,rfl,E,A,I,c,an,ai,J,hB,hi⟩;have ap:=(J 0 aC).trans g0;have ao:=dO (show 0<Y by omega)
  rcases Nat.lt_or_ge i CL.length with B | af
  ·have T:=List.getElem?_eq_getElem B
   have ax:=List.getElem_mem B;have am:=aa _ ax;have ay:=F _ ax;have ak:CL.take (i+1)=CL.take i++[CL[i]]:=zJ T;generalize CL[i]=x at *;obtain ⟨y,R,bf,ae,_,V,_,bd⟩:=bB (k:=4) (fun x h=>tk_node.len h) aq G.2 am
   have ab:C.getD x .top=y:=by rw [List.getD_eq_getElem?_getD,ae];rfl
   have bh:=fun {d:Option AV}=>tk_node.pf R (d:=d)
   obtain ⟨q0,q1,q2,q3,rfl,⟨op,rfl⟩,⟨ag,rfl⟩,be,bg⟩:=R
   have ac:cM C x=op:=by rw [cM,ab];rfl
   have ar:lH C x=ag:=by rw [lH,ab];rfl
   have X:=NX (ns:=C) (l:=CL.take i) (x:=x);rw [ac,ar,<-ak]at X;rw [ac,ar]at ay
   have bi:(eT (eS C (CL.take i))).length<=i:=by
    have h1:=DF C (CL.take i);have h2:=HS (eS C (CL.take i));rw [List.length_take]at h1;omega
   have U:=fun {q:IntKind} {d:Option AV}=>iQ (k:=1) (cP T) rfl (q:=q) (d:=d)
   have k3:(((i:Nat):Int)<((CL.length:Nat):Int))=True:=eq_true aC
   have O:IntKind.i64.wrap ((i:Int)+1)=((i+1:Nat):Int):=by rw [IntWalk.i64_in _ aC];rfl
   by_cases Q:op=24
   ·have h0:=ay Q
    obtain ⟨ag,rfl⟩:∃ a:Nat,ag=(a:Nat):=⟨ag.toNat,aC⟩
    rw [if_pos Q,Int.toNat_natCast]at X;subst Q;obtain ⟨w',⟨n3,bp,o3⟩,⟨p1,p2,p3⟩,p5⟩:=aEb (s:=⟨Y,u,Z⟩) (lo:=M) hB ai aC ag;have bo:orcL [eZ 23 [.agg [ns,fs,mm,cs],dP os ts us is no,.int .i64 n] (aW CL),ent 64 AU,bG 65 HR,bG 66 mO] 65 [w,.int .i64 (ag:Nat)] ⟨Y,u,Z⟩=_:=p5 [bG 66 mO];have hu:=AccI.und hB;have bm:Y<=n3:=p2;have bn:∀ id,id<M->o3.get id=Z.get id:=p3;refine PK @E @A @c @an @ap @ao @k3 @aS m.lX m.iX @U G.iX @V @O @bo @hu @bm ?_;exact ⟨i+1,by show _-_<_-_;omega,_,_,_,_,w',rfl,aM @E,aM @A,aM @I,aG,aG,aC,fun id av=>(bn id av).trans (J id av),by rw [X,ZJ];exact p1,B⟩
   ·rw [if_neg Q,List.append_nil]at X
    refine CE @E @A @an @ap @ao @k3 @aS m.lX m.iX @U G.iX @V @O @Q ?_;exact ⟨i+1,by show _-_<_-_;omega,_,_,_,_,w,rfl,aM @E,aM @A,aM @I,aM @c,aG,ai,J,by rw [X];exact hB,B⟩
  ·obtain rfl:i=CL.length:=Nat.le_antisymm hi af
   rw [List.take_length]at hB;have k3:(((CL.length:Nat):Int)<((CL.length:Nat):Int))=False:=eq_false (Int.lt_irrefl _);have bi:(eT (eS C CL)).length<=300:=Nat.le_trans (HS _) (Nat.le_trans (DF _ _) bc);have bj:=CN (RowN.acc (low:=u) hB) aC (N:=4) aC [];have az:orcL [eZ 23 [.agg [ns,fs,mm,cs],dP os ts us is no,.int .i64 n] (aW CL),ent 64 AU,bG 65 HR,bG 66 mO] 66 [w,.int .i64 4] ⟨Y,u,Z⟩=_:=bj;refine JB @A @I @c @an @k3 @aS m.lX @az ?_
   have bb:=hA.keep (o':=Z) ai fun id _ h2=>J id h2
   refine .tuple _ _ rfl fun i x y hx hy=>?_
   match i with
   | 0=>
     cases hx;cases hy;rw [sN]
     exact bb.frz (fun x hx=>(dJ x hx).1) fun x hx=>(dJ x hx).2
   | 1=>
     cases hx;cases hy;exact .und _ (eD (Nat.le_trans (zO _ _) aC)).und
   | _+2=>simp at hx
end
theorem NY {l:List Nat} (r:l.length<=1000):Abs.Returns Tryz.prog 24 [aW l,aW l] (.bool true):=by
 have a:=fZ r;have u:=eD r;refine aF (L:=[]) aE aN (by kernel_rfl) Tryz.func24 Tryz.ntmps24 Tryz.results24 rfl rfl (aA u.und (aA u.und aD)) aJ ?_;refine wU a.lX ?_
 refine aL (fun i e=>∃ t,e=⟨26,none,24,t,[],⟨0,0,Tr.leaf⟩,.no⟩/\t.val 0=aW l/\t.val 1=aW l/\t.val 5=.int .i64 (i:Nat)/\i<=l.length) (fun i=>l.length-i) 0
  ⟨_,rfl,aG,aG,eA,Nat.zero_le _⟩ ?_
 rintro i _ ⟨t,rfl,o,v,w,y⟩
 rcases Nat.lt_or_ge i l.length with b | c
 ·have f:=List.getElem?_eq_getElem b
  generalize l[i]=x at *
  have h:=fun {q:IntKind} {d:Option AV}=>iQ (k:=1) (cP f) rfl (q:=q) (d:=d)
  have k1:(((i:Nat):Int)<((l.length:Nat):Int))=True:=eq_true aC
  have m:IntKind.i64.wrap ((i:Int)+1)=((i+1:Nat):Int):=by rw [IntWalk.i64_in _ aC];rfl
  refine UO @o @v @w a.lX @aS a.iX @h @k1 @m ?_;exact ⟨i+1,by show _-_<_-_;omega,_,rfl,aM @o,aM @v,aG,b⟩
 ·obtain rfl:i=l.length:=Nat.le_antisymm y c
  have k1:(((l.length:Nat):Int)<((l.length:Nat):Int))=False:=eq_false (Int.lt_irrefl _);exact PL @o @w a.lX @aS @k1
theorem ZK {z:Int} (h:mG z=true):16<=z/\z<29:=by
 simp only [mG,Bool.or_eq_true,Bool.and_eq_true,decide_eq_true_eq]at h;omega
theorem aEc {ns:List AV} {CL:List Nat}:zA (oE (gJ (CC ns CL)))=aW (evF ns CL 29):=by
 rw [WV (N:=29) (p:=fun j=>decide (16<=j)&&(CL.any (fun i=>decide (cM ns i=(j:Nat)))&&mG (j:Nat))) fun z=>?_]
 ·rfl
 ·simp only [CC,List.mem_map,List.mem_filter,Bool.and_eq_true,decide_eq_true_eq,List.any_eq_true]
  constructor
  ·rintro ⟨i,⟨b,a⟩,rfl⟩
   have d:=ZK a;refine ⟨(cM ns i).toNat,aC,aC,aC,⟨i,b,aC⟩,?_⟩;rw [Int.toNat_of_nonneg aC];exact a
  ·rintro ⟨k,rfl,_,_,⟨i,b,c⟩,a⟩
   exact ⟨i,⟨b,by rw [c];exact a⟩,c⟩
theorem SC {ns:List AV} {CL:List Nat} (h:∀ x∈CL,cM ns x=24->0<=lH ns x/\lH ns x<4):zA (oE (gJ (lZ ns CL)))=aW (kB (eT (eS ns CL)) 4):=by
 rw [WV (N:=4) (p:=fun i=>decide (i∈eT (eS ns CL))) fun z=>?_]
 ·rfl
 ·rw [lZ,List.mem_map]
  constructor
  ·rintro ⟨i,b,rfl⟩
   have a:=List.mem_filter.1 b;have:=h i a.1 (of_decide_eq_true a.2);exact ⟨(lH ns i).toNat,aC,aC,decide_eq_true (mX.2 (List.mem_map.2 ⟨i,b,rfl⟩))⟩
  ·rintro ⟨k,rfl,_,c⟩
   obtain ⟨i,b,d⟩:=List.mem_map.1 (mX.1 (of_decide_eq_true c));have a:=List.mem_filter.1 b;have:=h i a.1 (of_decide_eq_true a.2);exact ⟨i,b,aC⟩
section
variable {p os ts us is no:AV}
theorem aKq {ns fs cs:List AV} {mm:Int} (h:eF ns fs mm cs=true) {x:Nat} (d:x<ns.length) (a:cM ns x=24):0<=lH ns x/\lH ns x<4:=by
 simp only [eF,Bool.and_eq_true,decide_eq_true_eq,List.all_eq_true]at h
 have c:ns.getD x .top=ns[x]:=by rw [List.getD_eq_getElem?_getD,List.getElem?_eq_getElem d];rfl
 rw [cM,c]at a;rw [lH,c];have:=h.2.2.2.2.2.2.2.1 _ (List.getElem_mem d);simp only [gK,Bool.and_eq_true]at this;have b:=this.2.2.2.1;rw [pS,a]at b;simp only [show ¬ (24:Int)=1 by omega,show ¬ (24:Int)=2 by omega,if_true,if_false,inR,Bool.and_eq_true,decide_eq_true_eq]at b;omega
set_option maxHeartbeats 4000000 in
theorem ZL (X:Abs.Returns Tryz.prog 7 [] (.bool true)) (r:dD p) (q:WG os ts us is no) {nn:AV} (hn:dA nn):Abs.Returns Tryz.prog 5 [p,dP os ts us is no,nn] (.bool true):=by
 obtain ⟨n,rfl⟩:=hn;have ad:=(cL p r).1;obtain ⟨c0,S,T,U,V⟩:=q.cells;have Y:=aA ad.und (aA q.und.und (aA (show UnderE 0 (AV.int .i64 n) from ⟨1,rfl⟩).und aD))
 have hq:∃ ns fs mm cs,p=.agg [ns,fs,mm,cs]/\ns.isCell=true/\fs.isCell=true/\mm.isCell=true/\cs.isCell=true:=by
  obtain ⟨ns,fs,mm,cs,rfl,a1,a2,a3,a4⟩:=r;exact ⟨ns,fs,mm,cs,rfl,(bP _ a1).2,(aT _ a2).2,(tu_int _ a3).2,(cJ _ a4).2⟩
 have c:=aAa r q;have Z:∀ {f h:FuncId} {a:List AV} {v:AV} {L:List kG} {args:List AV} {s:Sto},h≠f->orcL (eZ h a v::L) f args s=orcL L f args s:=jP;have x2:∀ {f:FuncId} {a:List AV} {v:AV} {L:List kG} {s:Sto},orcL (eZ f a v::L) f a s=some (.ret v none):=eC
 cases Q:KH p os ts us is with
 | true=>
   rw [Q]at c;refine aF (L:=[eZ 6 [p,dP os ts us is no] (.bool true),eZ 7 [] (.bool true)]) (elist_cons (bL c) (elist_cons (bL X) aE)) aN (by kernel_rfl) Tryz.func5 Tryz.ntmps5 Tryz.results5 rfl rfl Y aJ ?_;clear c;obtain ⟨ns,fs,mm,cs,rfl,G,H,I,J⟩:=hq;exact PM @c0 @S @T @U @V @G @H @I @J @Z @x2
 | false=>
 rw [Q]at c
 have N:dY (p.fld 0).els (p.fld 1).els (p.fld 3).els=true/\jH os.els ts.els us.els is.els=true:=by
  unfold KH at Q;split at Q
  ·rename_i h;rw [Bool.and_eq_true]at h;exact h
  ·cases Q
 have w:=aTa (p:=p) q N.2;have e:=aFd r (aPu N.1) q;have m:=aFb q n
 have o:qU p (dP os ts us is no) n=false->Abs.Returns Tryz.prog 20 [p,dP os ts us is no,.int .i64 n] (.tuple [.nils,iO false])/\Abs.Returns Tryz.prog 21 [p,dP os ts us is no,.int .i64 n] (.tuple [.nils,.nils,iO false]):=fun u=>by
  have h1:=OB (M:=[]) r q n (by decide) fun h=>by rw [u]at h;cases h
  have h2:=WT (M:=[]) r q n (by decide) fun h=>by rw [u]at h;cases h
  rw [u]at h1 h2;exact ⟨h1,h2⟩
 cases y:(jI p&&sW p (dP os ts us is no)) with
 | false=>
   have u:qU p (dP os ts us is no) n=false:=by rw [qU,y,Bool.false_and]
   rw [y]at e;obtain ⟨d,b⟩:=o u
   refine aF (L:=[eZ 6 [p,dP os ts us is no] (.bool false),eZ 7 [] (.bool true),eZ 20 [p,dP os ts us is no,.int .i64 n] (.tuple [.nils,iO false]),eZ 21 [p,dP os ts us is no,.int .i64 n] (.tuple [.nils,.nils,iO false]),eZ 10 [p,dP os ts us is no] (.bool false)])
    (elist_cons (bL c) (elist_cons (bL X) (elist_cons (bL d) (elist_cons (bL b) (elist_cons (bL e) aE))))) aN (by kernel_rfl) Tryz.func5 Tryz.ntmps5 Tryz.results5 rfl rfl Y aJ ?_
   clear c e d b w o;obtain ⟨ns,fs,mm,cs,rfl,G,H,I,J⟩:=hq;simp +contextual +decide (maxSteps:=1000000) only [↓ wP,wQ,tf,Nat.reduceAdd,wS,c0,S,T,U,V,G,H,I,J,Z,x2,iO]
   done
 | true=>
   have hw:=w y
   have u:qU p (dP os ts us is no) n=xJ ts n:=by
    rw [qU,y,Bool.true_and,xJ,inR]
    congr 1
    rw [decide_eq_decide];show n<=((ts.els.length:Nat):Int)-1↔_;omega
   rw [y]at e
   cases kt:xJ ts n with
   | false=>
     rw [kt]at m u;obtain ⟨d,b⟩:=o u
     refine aF (L:=[eZ 6 [p,dP os ts us is no] (.bool false),eZ 7 [] (.bool true),eZ 20 [p,dP os ts us is no,.int .i64 n] (.tuple [.nils,iO false]),eZ 21 [p,dP os ts us is no,.int .i64 n] (.tuple [.nils,.nils,iO false]),eZ 10 [p,dP os ts us is no] (.bool true),eZ 13 [dP os ts us is no,.int .i64 n] (.bool false)])
      (elist_cons (bL c) (elist_cons (bL X) (elist_cons (bL d) (elist_cons (bL b) (elist_cons (bL e) (elist_cons (bL m) aE)))))) aN (by kernel_rfl) Tryz.func5 Tryz.ntmps5 Tryz.results5 rfl rfl Y aJ ?_
     clear c e d b w o m;obtain ⟨ns,fs,mm,cs,rfl,G,H,I,J⟩:=hq;simp +contextual +decide (maxSteps:=1000000) only [↓ wP,wQ,tf,Nat.reduceAdd,wS,c0,S,T,U,V,G,H,I,J,Z,x2,iO]
     done
   | true=>
     rw [kt]at m u;simp only [xJ,Bool.and_eq_true,decide_eq_true_eq]at kt
     obtain ⟨k,rfl⟩:∃ k:Nat,n=(k:Nat):=⟨n.toNat,aC⟩
     have ab:k<ts.els.length:=by omega
     obtain ⟨ns,fs,mm,cs,rfl,a1,a2,a3,a4⟩:=id r;obtain ⟨M,B,ae,C,D⟩:=aEm r hw y ab
     have hF:eF ns.els fs.els mm.num cs.els=true:=by rw [Bool.and_eq_true]at y;exact y.1
     have A:∀ x∈cB M ns.els.length,x<ns.els.length:=fun x P=>List.mem_range.1 (List.mem_filter.1 P).1
     have E:∀ x∈cB M ns.els.length,cM ns.els x=24->0<=lH ns.els x/\lH ns.els x<4:=fun x P h4=>aKq hF (A x P) h4
     have af:=mY M ns.els.length
     have d:=OB r q (k:Nat) (show M.length<=300 by omega) fun _=>C
     have b:=WT r q (k:Nat) (show M.length<=300 by omega) fun _=>⟨B,C⟩
     have F:=aKp r q (k:Nat) (CL:=cB M ns.els.length) A aC (fun x P h4=>(E x P h4).1) D;rw [show (AV.agg [ns,fs,mm,cs]).fld 0=ns from rfl]at b F;rw [u,aDz,if_pos rfl,B,aEc,SC E]at b;rw [u,OA,if_pos rfl,B]at d;have aa:=WU ns.els (cB M ns.els.length) 29;have O:=NY (l:=evF ns.els (cB M ns.els.length) 29) aC;have ac:=zO (eT (eS ns.els (cB M ns.els.length))) 4
     have n1:mP [aW (cB M ns.els.length),aW (cB M ns.els.length)]=some (.bool true):=by
      have:mP [aW (cB M ns.els.length),aW (cB M ns.els.length)]=_:=sg2_eq ⟨qQ aC,qQ aC⟩;rw [this,EC]
     have n2:mP [aW (kB (eT (eS ns.els (cB M ns.els.length))) 4),aW (kB (eT (eS ns.els (cB M ns.els.length))) 4)]=some (.bool true):=by
      have:mP [aW (kB (eT (eS ns.els (cB M ns.els.length))) 4),aW (kB (eT (eS ns.els (cB M ns.els.length))) 4)]=_:=sg2_eq ⟨qQ aC,qQ aC⟩;rw [this,EC]
     have y1:(aW (cB M ns.els.length)).isCell=true:=cY;have y2:(aW (kB (eT (eS ns.els (cB M ns.els.length))) 4)).isCell=true:=cY;have y3:(aW (evF ns.els (cB M ns.els.length) 29)).isCell=true:=cY;clear ac aa E A;generalize aW (kB (eT (eS ns.els (cB M ns.els.length))) 4)=PO at *;generalize aW (evF ns.els (cB M ns.els.length) 29)=R at *;generalize aW (cB M ns.els.length)=CL at *
     refine aF (L:=[eZ 6 [.agg [ns,fs,mm,cs],dP os ts us is no] (.bool false),eZ 7 [] (.bool true),eZ 20 [.agg [ns,fs,mm,cs],dP os ts us is no,.int .i64 (k:Nat)] (.tuple [CL,iO true]),eZ 21 [.agg [ns,fs,mm,cs],dP os ts us is no,.int .i64 (k:Nat)] (.tuple [R,PO,iO true]),eZ 10 [.agg [ns,fs,mm,cs],dP os ts us is no] (.bool true),eZ 13 [dP os ts us is no,.int .i64 (k:Nat)] (.bool true),eZ 22 [.agg [ns,fs,mm,cs],dP os ts us is no,.int .i64 (k:Nat)] (.tuple [R,PO]),eZ 23 [.agg [ns,fs,mm,cs],dP os ts us is no,.int .i64 (k:Nat)] CL,eZ 24 [R,R] (.bool true),ent 14 mP])
      (elist_cons (bL c) (elist_cons (bL X) (elist_cons (bL d) (elist_cons (bL b) (elist_cons (bL e) (elist_cons (bL m) (elist_cons (bL F) (elist_cons (bL D) (elist_cons (bL O) (elist_cons qNums_ok.ent aE)))))))))) aN (by kernel_rfl) Tryz.func5 Tryz.ntmps5 Tryz.results5 rfl rfl Y aJ ?_
     clear c e d b w o m F D C O;have G:=(bP _ a1).2;have H:=(aT _ a2).2;have I:=(tu_int _ a3).2;have J:=(cJ _ a4).2;simp +contextual +decide (maxSteps:=1000000) only [↓ wP,wQ,tf,Nat.reduceAdd,wS,c0,S,T,U,V,G,H,I,J,Z,x2,iO,n1,n2]
     done
end
end
end Go.Proofs.YtdipddlhenoglaaGreat
