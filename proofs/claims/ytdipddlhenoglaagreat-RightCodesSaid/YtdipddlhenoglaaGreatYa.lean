/-
  The nodes that an object needs, by the program.
-/
import Derived.Test.YtdipddlhenoglaaGreatZw
set_option linter.unusedVariables false
set_option linter.unusedSimpArgs false
namespace Go.Abs
noncomputable section
theorem JY {P:Program} {L:List kG} (G:∀ x∈L,bM P x) (H:dG) {f:FuncId} {fn:Func} {c:Code} {N:Nat} {B:List ResultVar} {args:List AV} {s:Sto} {r:Nat} {x:AObj} {v:AV} (l:okFn P f=true) (M:P.funcs[f]?=some fn) (Q:fn.ntmps=N) (R:fn.results=B.toArray) (J:fn.body=some c)
 (I:Nat.ble args.length N=true) (m:r<s.n) (U:PW s.n x)
 (h:Wk P (orcL L) H c ⟨N,none,f,Tr.leaf.lay 0 args,[],⟨s.n,s.n,s.o⟩,.no⟩ (aLr P B fun S C=>S.get r=some x/\(∀ id,id<s.n->id≠r->S.get id=s.get id)/\Frz S s.n C v)):bO P f args s (.ret v (some ⟨s.n,0,s.o.set r x⟩)):=by
 refine yD (O:=orcL L) (mT G) l M J ?_;rw [gN Q I]
 refine h.sound.mono fun ex e b=>XJ R (fun S C ⟨q,u,F⟩=>?_) b
 obtain ⟨k,D,E⟩:=s;have w:r<k:=m;refine BN (S:=S) (s':=⟨k,0,E.set r x⟩) rfl (Nat.zero_le _) (Nat.zero_le _) (fun T id a=>?_) (fun id a=>?_) (fun id a=>?_) F
 ·have:k<=id:=a
  show (E.set r x).get id=none;rw [Tr.get_set_ne _ _ aC];exact T id a
 ·have d:id<k:=a
  rw [Sto.get_mk d];by_cases b:id=r
  ·subst b;rw [q,Tr.get_set_same]
  ·rw [u id a b,Tr.get_set_ne _ _ b,Sto.get_mk d]
 ·by_cases b:id=r
  ·subst b;right;intro y A;rw [q]at A;cases A;exact U
  ·exact .inl (u id a b)
theorem aPr {P:Program} {O:cH} {a b:Code} {H:dG} {e:Env} {Q:Ex->Env->Prop} (I:Env->Prop) (d:Wk P O H a e fun ex e'=>ex=.normal/\I e') (f:∀ e',I e'->Wk P O H b e' Q):Wk P O H (.seq a b) e Q:=by
 show Wk P O H a e (fun ex e'=>match ex with
  | .normal=>Wk P O H b e' Q
  | ex=>Q ex e')
 refine Wk.mono (fun ex e' h=>?_) d;obtain ⟨rfl,c⟩:=h;exact f e' c
end
end Go.Abs
namespace Go.Proofs.YtdipddlhenoglaaGreat
open Go.Abs Go Go.Abs.TryzF
noncomputable section
set_option maxRecDepth 10000
def DJ (fs:List AV) (vs:List AV):List Nat:=vs.filterMap fun v=>if (v.fld 0).num=4 then some (fs.getD (v.fld 1).num.toNat .top).num.toNat else none
theorem HZ {fs:List AV} {v:AV} {l:List AV}:DJ fs (v::l)=if (v.fld 0).num=4 then (fs.getD (v.fld 1).num.toNat .top).num.toNat::DJ fs l else DJ fs l:=by
 unfold DJ;rw [List.filterMap_cons];by_cases h:(v.fld 0).num=4<;>simp [h]
def JZ (ns:List AV) (o:AV):List Nat:=if (o.fld 0).num=2 then [((gD ns (o.fld 1).num.toNat).getD 0 0)] else []
def KA (ns:List AV) (f:AV):List Nat:=(gD ns (f.fld 0).num.toNat).drop (f.fld 2).els.length
def SP (ns fs:List AV) (o:AV):List Nat:=DJ fs (bS o)++(JZ ns o++(o.fld 3).els.flatMap (KA ns))
structure OkO (ns fs:List AV) (o:AV):Prop where
 good:vO o
 val:∀ v∈bS o,(v.fld 0).num=4->0<=(v.fld 1).num/\(v.fld 1).num<fs.length
 knd:(o.fld 0).num=2->0<=(o.fld 1).num/\(o.fld 1).num<ns.length/\0<(gD ns (o.fld 1).num.toNat).length
 frm:∀ f∈(o.fld 3).els,0<=(f.fld 0).num/\(f.fld 0).num<ns.length
section
variable {ns fs mm cs:AV}
abbrev LCo (ns fs mm cs:AV):List kG:=bG 133 (KD ns fs mm cs ns.els.length)::zQ
theorem aPs:∀ x∈LCo ns fs mm cs,bM Tryz.prog x:=elist_cons KE KK
theorem aKv {o:AV} (h:AE o) (σ:Sto):orcL (LCo ns fs mm cs) 82 [o] σ=some (.ret (EA o) none):=OG h σ
theorem aEp {o:AV} (h:vO o):BD Tryz.prog (orcL (LCo ns fs mm cs)) (EA o) (pQ o):=BE h (fun _ _=>rfl) fun _ _ _ _ _ a b c d=>OH a b c d
def ROb (ns fs mm cs:AV) (args:List AV) (s:Sto) (res:CRes):Prop:=∃ c m g M o out,args=[.ptr c 0 0,o]/\CoS ns fs mm cs c m g M s/\OkO ns.els fs.els o/\Run (mM ns.els fs.els) M (SP ns.els fs.els o) out/\res=.ret (.tuple []) (some ⟨s.n,0,s.o.set m (aQ g (aI (aO M out)))⟩)/\bO Tryz.prog 95 args s res
theorem pL (M:List Bool):fX M<=M.length:=List.count_le_length
set_option maxHeartbeats 8000000 in
theorem OC (hp:dD (.agg [ns,fs,mm,cs])) (hg:GP ns.els fs.els) {c m g:Nat} {M:List Bool} {o:AV} {out:List Nat} {s:Sto} (h:CoS ns fs mm cs c m g M s) (ho:OkO ns.els fs.els o) (hr:Run (mM ns.els fs.els) M (SP ns.els fs.els o) out):∃ res,ROb ns fs mm cs [.ptr c 0 0,o] s res:=by
 refine ⟨_,c,m,g,M,o,out,rfl,h,ho,hr,rfl,?_⟩;obtain ⟨h1,h2,h3,h4⟩:=h;refine JY (L:=LCo ns fs mm cs) aPs aN (by kernel_rfl) Tryz.func95 Tryz.ntmps95 Tryz.results95 rfl rfl (Sto.get_lt h2) iU ?_;obtain ⟨n0,cx,o0⟩:=s;have hm:m<n0:=Sto.get_lt h2;have hc:c<n0:=Sto.get_lt h1;rw [Sto.get_mk hc]at h1;rw [Sto.get_mk hm]at h2;have fc:=dO hc;have fm:=dO hm;have hT:=ho.good.1
 have bp:=fun {σ:Sto}=>aKv (ns:=ns) (fs:=fs) (mm:=mm) (cs:=cs) hT σ
 have cg:=aEp (ns:=ns) (fs:=fs) (mm:=mm) (cs:=cs) ho.good;obtain ⟨_,U,e,bg,b5⟩:=tk_ob o hT;subst e;have bx:∀ v∈bS (.agg U),tJ v:=iC (nK hT);have cr:=ho.val;obtain ⟨a0,a1,a2,a3,e,bo,cd,c4,c1⟩:=id hp;simp only [AV.agg.injEq,List.cons.injEq,and_true]at e;obtain ⟨rfl,rfl,rfl,rfl⟩:=e;obtain ⟨xf,ab,ao⟩:=cd;refine EW @eP @bg @b5 (eY bg) @bp ?_;generalize ah:(o0.set n0 (aQ 0 [AV.ptr c 0 0])).set (n0+1) (aQ 0 U)=ob
 have g0:ob.get n0=some (aQ 0 [.ptr c 0 0]):=by rw [<-ah,Tr.get_set_ne _ _ aC,Tr.get_set_same]
 have g1:ob.get (n0+1)=some (aQ 0 U):=by rw [<-ah,Tr.get_set_same]
 have gk:∀ id,id<n0->ob.get id=o0.get id:=fun id D=>by rw [<-ah,Tr.get_set_ne _ _ aC,Tr.get_set_ne _ _ aC]
 clear ah
 refine sQ (xs:=pQ (.agg U)) (fun q Y u=>(∀ id,Y id->n0+2<=id)/\n0+2<=u.n/\(∀ id,id<n0+2->id≠m->u.get id=ob.get id)/\∃ p rest,u.get m=some (aQ g (aI (aO M p)))/\Run (mM ns.els fs.els) (aO M p) (DJ fs.els ((bS (.agg U)).drop q)++(JZ ns.els (.agg U)++((AV.agg U).fld 3).els.flatMap (KA ns.els))) rest/\out=p++rest) (fun _ _ _=>False)
  (by simp +decide only [↓ nR];exact cg) ?_ (fun _ _ _ _ _ _ h=>h) (fun _ _ _ h=>h.elim) ⟨fun _ h=>h.elim,Nat.le_refl _,fun id D _=>Sto.get_mk D,[],out,(Sto.get_mk (show m<n0+1+1 by omega)).trans ((gk m hm).trans h2),hr,rfl⟩ ?_ ?_ (fun _ _ _ _ _ h=>h.elim) (fun _ _ _ _ _ _ h=>h.elim)
 ·rintro q Y Y' u u' hs ⟨j1,j2,j3,p,rest,j5,B,j7⟩
  have hk:∀ id,id<n0+2->u'.get id=u.get id:=fun id D=>hs.2.2.2 id aC (fun hy=>by have:=j1 id hy;omega) (by show ¬ id=n0+1+1+1;omega)
  exact ⟨fun id hy=>(hs.2.1 id hy).elim (j1 id) fun h=>Nat.le_trans j2 h.1,Nat.le_trans j2 hs.2.2.1,fun id O G=>(hk id O).trans (j3 id O G),p,rest,(hk _ aC).trans j5,B,j7⟩
 ·rintro q xr R Y ⟨l,lu,ou⟩ bb cz bz bf A ad ⟨j1,j2,j3,p,rest,j5,B,j7⟩
  obtain ⟨xv,bs,rfl⟩:∃ xv,(bS (.agg U))[q]?=some xv/\[xv]=xr:=by
   rw [pQ,List.getElem?_map]at R
   cases hx:(bS (.agg U))[q]? with
   | none=>rw [hx]at R;cases R
   | some v=>rw [hx]at R;exact ⟨v,rfl,Option.some.inj R⟩
  have bn:=List.mem_of_getElem? bs
  have au:(bS (.agg U)).drop q=xv::(bS (.agg U)).drop (q+1):=by
   obtain ⟨af,he⟩:=List.getElem?_eq_some_iff.1 bs;rw [List.drop_eq_getElem_cons af,he]
  have bq:=cr xv bn;rw [au,HZ]at B;obtain ⟨C,kb,rfl,⟨C,rfl⟩,⟨kb,rfl⟩⟩:=bx xv bn;rw [show ((AV.agg [.int .i64 C,.int .i64 kb]).fld 0).num=C from rfl,show ((AV.agg [.int .i64 C,.int .i64 kb]).fld 1).num=kb from rfl]at bq B;have az:n0+1+1+1<l:=bb;have al:¬ Y (n0+1+1+1):=bz;have v0:=dO (show n0<l by omega);have v1:=dO (show n0+1<l by omega);have vc:=dO (show c<l by omega);have vm:=dO (show m<l by omega);have vd:=dO (show n0+1+1<l by omega);have vl:=dO az
  have vv:n0+1+1+1≠m/\m≠n0+1+1+1/\n0+1+1+1≠c/\c≠n0+1+1+1/\n0≠m/\m≠n0/\n0+1≠m/\m≠n0+1:=by omega
  have w0:=(j3 n0 aC aC).trans g0;have wc:=(j3 c aC (Ne.symm h4)).trans ((gk c hc).trans h1);rw [Sto.get_mk (show n0<l by omega)]at w0;rw [Sto.get_mk (show c<l by omega)]at wc;rw [Sto.get_mk (show m<l by omega)]at j5;rw [show ∀ low,(Sto.mk (n0+1+1) low ob).n=n0+1+1 from fun _=>rfl]at A ad;rw [Sto.get_mk (show n0+1+1<l by omega)]at A;rw [Sto.get_mk az]at ad;refine ⟨_,rfl,?_⟩;by_cases h5:C=4
  ·subst h5
   rw [if_pos rfl]at B;obtain ⟨b1,b2⟩:=bq rfl;rw [ab.els]at b2 B;obtain ⟨y,P,ay,Q,_,H,_,_⟩:=bB (k:=1) (fun x h=>tu_int.len h) ao ab.2 (show kb.toNat<xf.length by omega)
   have cj:((kb.toNat:Nat):Int)=kb:=by omega
   rw [cj]at H;have cu:=hg.bod y (ab.els ▸ ay);rw [List.getD_eq_getElem?_getD,Q]at B;obtain ⟨z,rfl⟩:=P;rw [show (AV.int .i64 z).num=z from rfl]at cu
   obtain ⟨b,rfl⟩:∃ b:Nat,z=(b:Nat):=⟨z.toNat,aC⟩
   change Run _ _ (b::_) _ at B;rw [<-ab.els]at B;obtain ⟨p1,p2,u1,u2,u3⟩:=B.split [b] _ rfl;have Z:(aO M p).length=M.length:=bK _ _
   have F:∀ {low:Nat} {o':Tr AObj},o'.get c=some (aQ 0 [ns,fs,mm,cs,.sl m g 0 M.length (.is M.length)])->o'.get m=some (aQ g (aI (aO M p)))->orcL (LCo ns fs mm cs) 133 [.ptr c 0 0,.int .i64 (b:Nat)] ⟨l+1,low,o'⟩=some (.ret (.tuple []) (some ⟨l+1,Nat.min m low,o'.set m (aQ g (aI (aO M (p++p1))))⟩)):=fun {low o'} O G=>by
    have hC:CoS ns fs mm cs c m g (aO M p) ⟨l+1,low,o'⟩:=CoS.mk' aC aC (by rw [Z];exact O) G (by rw [Z];exact h3) h4;have:=CJ hC u1 (wC hp hg ns.els.length hC aC u1 (by have:=pL (aO M p);omega)) zQ;rw [Sto.put_any,bQ]at this;exact this
   rw [bQ]at u2;simp +contextual +decide (maxSteps:=1000000) only [↓ wP,wQ,tf,Nat.reduceAdd,wS,ad,w0,wc,j5,v0,vc,vm,vd,vl,vv,jO,iS,Env.setS,NQ,eP,ab.idx,H,F];refine ⟨⟨⟨Nat.le_succ l,fun id hy=>?_⟩,j1,Nat.le_succ_of_le j2,fun id O G=>?_,p++p1,p2,?_,u2,by rw [j7,u3,List.append_assoc]⟩,?_⟩
   ·have h6:=j1 id hy
    have h7:=bf id hy;have an:id<l:=h7;rw [Sto.get_mk (show id<l+1 by omega),Sto.get_mk an,Tr.get_set_ne _ _ aC,Tr.get_set_ne _ _ (fun e=>al (by rw [<-e];exact hy)),Tr.get_set_ne _ _ aC,Tr.get_set_ne _ _ aC]
   ·rw [<-j3 id O G,Sto.get_mk (show id<l+1 by omega),Sto.get_mk (show id<l by omega),Tr.get_set_ne _ _ G,Tr.get_set_ne _ _ aC,Tr.get_set_ne _ _ aC,Tr.get_set_ne _ _ aC]
   ·rfl
   ·rw [Tr.get_set_ne _ _ aC,Tr.get_set_ne _ _ aC,Tr.get_set_ne _ _ aC,Tr.get_set_ne _ _ aC];exact A
  ·rw [if_neg h5]at B
   simp +contextual +decide (maxSteps:=1000000) only [↓ wP,wQ,tf,Nat.reduceAdd,wS,ad,A,vd,vl,jO,iS,Env.setS,eP,h5];refine ⟨⟨Nat.le_succ l,fun id hy=>?_⟩,j1,Nat.le_succ_of_le j2,fun id O G=>?_,p,rest,?_,B,j7⟩
   ·have h6:=j1 id hy
    have h7:=bf id hy;have an:id<l:=h7;rw [Sto.get_mk (show id<l+1 by omega),Sto.get_mk an,Tr.get_set_ne _ _ (fun e=>al (by rw [<-e];exact hy)),Tr.get_set_ne _ _ aC,Tr.get_set_ne _ _ aC]
   ·rw [<-j3 id O G,Sto.get_mk (show id<l+1 by omega),Sto.get_mk (show id<l by omega),Tr.get_set_ne _ _ aC,Tr.get_set_ne _ _ aC,Tr.get_set_ne _ _ aC]
   ·rw [Sto.get_mk (show m<l+1 by omega),Tr.get_set_ne _ _ aC,Tr.get_set_ne _ _ aC,Tr.get_set_ne _ _ aC];exact j5
 ·rintro Y ⟨l,lu,ou⟩ bb bm A ⟨j1,j2,j3,p,rest,j5,B,j7⟩
  have az:n0+1+1+1<l:=bb;have b9:(bS (.agg U)).drop (pQ (.agg U)).length=[]:=List.drop_of_length_le (by rw [pQ,List.length_map];exact Nat.le_refl _);rw [b9]at B;change Run _ _ (JZ ns.els (.agg U)++_) rest at B
  have kk:∀ id,id<n0+2->id≠m->ou.get id=ob.get id:=fun id O G=>by
   rw [<-j3 id O G,Sto.get_mk (show id<l by omega)]
  rw [Sto.get_mk (show m<l by omega)]at j5
  have bj:ou.get (n0+1+1)=some (.defs (some [])):=by rw [<-A];exact (Sto.get_mk (show n0+1+1<l by omega)).symm
  have w0:=(kk n0 aC aC).trans g0;have w1:=(kk (n0+1) aC aC).trans g1;have wc:=(kk c aC (Ne.symm h4)).trans ((gk c hc).trans h1);have v0:=dO (show n0<l by omega);have v1:=dO (show n0+1<l by omega);have vc:=dO (show c<l by omega);have vm:=dO (show m<l by omega)
  have ci:∀ id,id<n0->id≠m->ou.get id=o0.get id:=fun id O G=>(kk id aC G).trans (gk id O)
  obtain ⟨f0,f1,f2,f3,e,⟨op,rfl⟩,⟨T,rfl⟩,hv,hf⟩:=id hT;simp only [AV.agg.injEq]at e;subst e;have ax:=ho.knd;rw [show ((AV.agg [.int .i64 op,.int .i64 T,f2,f3]).fld 0).num=op from rfl,show ((AV.agg [.int .i64 op,.int .i64 T,f2,f3]).fld 1).num=T from rfl]at ax;rw [JZ,show ((AV.agg [.int .i64 op,.int .i64 T,f2,f3]).fld 0).num=op from rfl,show ((AV.agg [.int .i64 op,.int .i64 T,f2,f3]).fld 1).num=T from rfl]at B
  have F:∀ {b:Nat} {p p1:List Nat} {n low:Nat} {o':Tr AObj},b<ns.els.length->Run (mM ns.els fs.els) (aO M p) [b] p1->l<=n->o'.get c=some (aQ 0 [ns,fs,mm,cs,.sl m g 0 M.length (.is M.length)])->o'.get m=some (aQ g (aI (aO M p)))->orcL (LCo ns fs mm cs) 133 [.ptr c 0 0,.int .i64 (b:Nat)] ⟨n,low,o'⟩=some (.ret (.tuple []) (some ⟨n,Nat.min m low,o'.set m (aQ g (aI (aO M (p++p1))))⟩)):=fun {b p p1 n low o'} hb u1 hn O G=>by
   have Z:(aO M p).length=M.length:=bK _ _;have hC:CoS ns fs mm cs c m g (aO M p) ⟨n,low,o'⟩:=CoS.mk' aC aC (by rw [Z];exact O) G (by rw [Z];exact h3) h4;have:=CJ hC u1 (wC hp hg ns.els.length hC aC u1 (by have:=pL (aO M p);omega)) zQ;rw [Sto.put_any,bQ]at this;exact this
  have c0:=(bP _ bo).2;obtain ⟨xn,E,be⟩:=bo;show Wk _ _ _ (Code.seq _ _) _ _;refine aPr (fun e=>∃ t low o' p rest,e=⟨76,none,95,t,[.collected (n0+1+1)],⟨l,low,o'⟩,.no⟩/\t.val 2=.ptr n0 0 0/\t.val 3=.ptr (n0+1) 0 0/\o'.get m=some (aQ g (aI (aO M p)))/\(∀ id,id≠m->o'.get id=ou.get id)/\Run (mM ns.els fs.els) (aO M p) (((AV.agg [.int .i64 op,.int .i64 T,f2,f3]).fld 3).els.flatMap (KA ns.els)) rest/\out=p++rest) ?_ ?_
  ·by_cases h5:op=2
   ·subst h5
    obtain ⟨b1,b2,b3⟩:=ax rfl;rw [E.els]at b2;obtain ⟨y,P,ay,Q,_,H,_,_⟩:=bB (k:=4) (fun x h=>tk_node.len h) be E.2 (show T.toNat<xn.length by omega)
    have aq:((T.toNat:Nat):Int)=T:=by omega
    rw [aq]at H
    have A:xn.getD T.toNat .top=y:=by rw [List.getD_eq_getElem?_getD,Q];rfl
    have cq:=fun {d:Option AV}=>tk_node.pf P (d:=d)
    have I:=hg.kid T.toNat y (E.els ▸ Q);obtain ⟨q0,O,G,q3,rfl,⟨bc,rfl⟩,⟨am,rfl⟩,aa,cp⟩:=P;have d2:=(aT _ aa).2;obtain ⟨V,w,ap⟩:=aa;rw [show ((AV.agg [.int .i64 bc,.int .i64 am,G,q3]).fld 2).els=V from w.els]at I
    have ae:gD ns.els T.toNat=V.map fun x=>x.num.toNat:=by rw [gD,E.els,A];exact congrArg _ w.els
    rw [ae,List.length_map]at b3;obtain ⟨z,bw,cm,ce,_,bl,_,_⟩:=bB (k:=1) (fun x h=>tu_int.len h) ap w.2 b3;have cw:=I z cm;rw [if_pos rfl,ae,List.getD_eq_getElem?_getD,List.getElem?_map,ce]at B;obtain ⟨z,rfl⟩:=bw;rw [show (AV.int .i64 z).num=z from rfl]at cw
    obtain ⟨b,rfl⟩:∃ b:Nat,z=(b:Nat):=⟨z.toNat,aC⟩
    change Run _ _ ([b]++_) _ at B;obtain ⟨p1,p2,u1,u2,u3⟩:=B.split [b] _ rfl;rw [bQ]at u2;have cv:((0:Nat):Int)=0:=rfl;rw [cv]at bl
    have b0:b<ns.els.length:=by omega
    have ar:=fun {low:Nat} {o':Tr AObj}=>F (low:=low) (o':=o') b0 u1 (Nat.le_refl l)
    simp +contextual +decide (maxSteps:=1000000) only [↓ wP,wQ,tf,Nat.reduceAdd,wS,w0,w1,wc,j5,v0,v1,vc,E.idx,H,w.idx,bl,ar,d2];exact ⟨_,_,_,p++p1,p2,rfl,aG,aG,Tr.get_set_same _ _ _,fun id r=>Tr.get_set_ne _ _ r,u2,by rw [j7,u3,List.append_assoc]⟩
   ·rw [if_neg h5]at B
    simp +contextual +decide (maxSteps:=1000000) only [↓ wP,wQ,tf,Nat.reduceAdd,wS,w1,v1,h5];exact ⟨_,_,_,p,rest,rfl,aG,aG,j5,fun _ _=>rfl,B,j7⟩
  ·clear j1 j2 j3 j5 B j7 p rest bm A ax
   rintro _ ⟨t,low,o',p,rest,rfl,t2,t3,k1,k2,k3,k4⟩;have bt:=(k2 (n0+1) aC).trans w1;have d3:=(gZ _ hf).2;obtain ⟨X,aj,ao⟩:=hf;have bi:=ho.frm;rw [show ((AV.agg [.int .i64 op,.int .i64 T,f2,f3]).fld 3).els=X from aj.els]at bi k3;simp +contextual +decide (maxSteps:=1000000) only [↓ wP,wQ,tf,Nat.reduceAdd,t3,bt,v1,aj.len]
   refine aL (fun i e=>∃ t n low o' p rest,e=⟨76,none,95,t,[.collected (n0+1+1)],⟨n,low,o'⟩,.no⟩/\t.val 2=.ptr n0 0 0/\t.val 44=f3/\t.val 45=.int .i64 (X.length:Nat)/\t.val 46=.int .i64 (i:Nat)/\l<=n/\o'.get m=some (aQ g (aI (aO M p)))/\(∀ id,id<l->id≠m->o'.get id=ou.get id)/\Run (mM ns.els fs.els) (aO M p) ((X.drop i).flatMap (KA ns.els)) rest/\out=p++rest/\i<=X.length) (fun i=>X.length-i) 0
    ⟨_,_,_,_,p,rest,rfl,aM @t2,aG,aG,eA,Nat.le_refl _,k1,fun id _ r=>k2 id r,k3,k4,Nat.zero_le _⟩ ?_
   clear t2 t3 k1 k2 k3 k4 bt p rest;rintro i _ ⟨t,n,low,o',p,rest,rfl,t2,S,J,N,hn,k1,k2,k3,k4,hi⟩;have x0:=(k2 n0 aC aC).trans w0;have xc:=(k2 c aC (Ne.symm h4)).trans wc;have z0:=dO (show n0<n by omega);have zc:=dO (show c<n by omega);have zm:=dO (show m<n by omega)
   rcases Nat.lt_or_ge i X.length with af | av
   ·obtain ⟨f,bu,ck,c2,b8,cf,ct,b7⟩:=bB (k:=3) (fun x h=>tk_fr.len h) ao aj.2 af
    have cb:=bi f ck;rw [b8,List.flatMap_cons]at k3;obtain ⟨a,b,d,rfl,⟨C,rfl⟩,hb,hd⟩:=bu;have b4:=(tu_vals b hb).2;have b6:=(tu_vals d hd).2;obtain ⟨xd,ba,cy⟩:=hd;rw [show ((AV.agg [.int .i64 C,b,d]).fld 0).num=C from rfl,E.els]at cb;obtain ⟨y,P,ay,Q,_,H,_,_⟩:=bB (k:=4) (fun x h=>tk_node.len h) be E.2 (show C.toNat<xn.length by omega)
    have aq:((C.toNat:Nat):Int)=C:=by omega
    rw [aq]at H
    have A:xn.getD C.toNat .top=y:=by rw [List.getD_eq_getElem?_getD,Q];rfl
    have cq:=fun {d:Option AV}=>tk_node.pf P (d:=d)
    have I:=hg.kid C.toNat y (E.els ▸ Q);obtain ⟨q0,O,G,q3,rfl,⟨bc,rfl⟩,⟨am,rfl⟩,aa,cp⟩:=P;have d2:=(aT _ aa).2;obtain ⟨V,w,ap⟩:=aa;rw [show ((AV.agg [.int .i64 bc,.int .i64 am,G,q3]).fld 2).els=V from w.els]at I
    have ae:gD ns.els C.toNat=V.map fun x=>x.num.toNat:=by rw [gD,E.els,A];exact congrArg _ w.els
    have cc:KA ns.els (.agg [.int .i64 C,b,d])=(V.map fun x=>x.num.toNat).drop xd.length:=by
     rw [KA,show ((AV.agg [.int .i64 C,b,d]).fld 0).num=C from rfl,show ((AV.agg [.int .i64 C,b,d]).fld 2).els=xd from ba.els,ae]
    rw [cc]at k3;refine UP @t2 @S @J @N @x0 @xc @z0 @zc @eP aj.iX @cf @b7 E.iX @H w.lX w.sX @b4 @b6 @d2 ?_
    have ai:∀ id,id<n->((o'.set n (aQ 0 [AV.int IntKind.i64 0,AV.nils,AV.nils])).set n (aQ 0 [AV.int IntKind.i64 C,b,d])).get id=o'.get id:=fun id D=>by rw [Tr.get_set_ne _ _ aC,Tr.get_set_ne _ _ aC]
    have cn:((o'.set n (aQ 0 [AV.int IntKind.i64 0,AV.nils,AV.nils])).set n (aQ 0 [AV.int IntKind.i64 C,b,d])).get n=some (aQ 0 [.int .i64 C,b,d]):=Tr.get_set_same _ _ _;generalize (o'.set n (aQ 0 [AV.int IntKind.i64 0,AV.nils,AV.nils])).set n (aQ 0 [AV.int IntKind.i64 C,b,d])=o1 at *
    refine aL (fun j e=>∃ t low o2 p rest,e=⟨76,none,95,t,[.collected (n0+1+1)],⟨n+1,low,o2⟩,.no⟩/\t.val 2=.ptr n0 0 0/\t.val 6=.ptr n 0 0/\t.val 44=f3/\t.val 45=.int .i64 (X.length:Nat)/\t.val 46=.int .i64 (i:Nat)/\t.val 59=G/\t.val 60=.int .i64 (V.length:Nat)/\t.val 61=.int .i64 (j:Nat)/\o2.get m=some (aQ g (aI (aO M p)))/\(∀ id,id<n+1->id≠m->o2.get id=o1.get id)/\Run (mM ns.els fs.els) (aO M p) ((V.map fun x=>x.num.toNat).drop (max j xd.length)++(X.drop (i+1)).flatMap (KA ns.els)) rest/\out=p++rest/\j<=V.length) (fun j=>V.length-j) 0
     ⟨_,_,_,p,rest,rfl,aM @t2,aG,aM @S,aM @J,aM @N,aG,aG,eA,(ai m aC).trans k1,fun _ _ _=>rfl,by rw [Nat.zero_max];exact k3,k4,Nat.zero_le _⟩ ?_
    clear t2 S J N k1 k3 k4 p rest;rintro j _ ⟨t,low,o2,p,rest,rfl,t2,t6,S,J,N,ak,ac,bd,k1,k5,k3,k4,hj⟩;have y0:=(k5 n0 aC aC).trans ((ai n0 aC).trans x0);have yc:=(k5 c aC (Ne.symm h4)).trans ((ai c aC).trans xc);have yn:=(k5 n aC aC).trans cn
    rcases Nat.lt_or_ge j V.length with aw | ch
    ·obtain ⟨x,bv,cl,c3,ca,bk,br,bh⟩:=bB (k:=1) (fun x h=>tu_int.len h) ap w.2 aw
     have R:=I x cl;obtain ⟨z,rfl⟩:=bv;rw [show (AV.int .i64 z).num=z from rfl]at R
     obtain ⟨e,rfl⟩:∃ e:Nat,z=(e:Nat):=⟨z.toNat,aC⟩
     by_cases av:xd.length<=j
     ·rw [Nat.max_eq_left av,<-List.map_drop,ca,List.map_cons]at k3
      change Run _ _ ([e]++_) _ at k3;obtain ⟨p1,p2,u1,u2,u3⟩:=k3.split [e] _ rfl;rw [bQ]at u2;have e1:(((xd.length:Nat):Int)<=((j:Nat):Int))=True:=eq_true aC
      have ar:=fun {low:Nat} {o':Tr AObj}=>F (low:=low) (o':=o') (show e<ns.els.length by omega) u1 (show l<=n+1 by omega)
      refine UP @t2 @t6 @ak @ac @bd @y0 @yc @yn @k1 @z0 @NQ @eP w.iX @bk @bh @br ba.lX @e1 @ar ?_;exact ⟨j+1,by show _-_<_-_;omega,_,_,_,p++p1,p2,rfl,aM @t2,aM @t6,aM @S,aM @J,aM @N,aM @ak,aM @ac,aG,Tr.get_set_same _ _ _,fun id D r=>by rw [Tr.get_set_ne _ _ r];exact k5 id D r,by rw [Nat.max_eq_left aC,<-List.map_drop];exact u2,by rw [k4,u3,List.append_assoc],aw⟩
     ·have e1:(((xd.length:Nat):Int)<=((j:Nat):Int))=False:=eq_false aC
      refine tI @t6 @ak @ac @bd @yn @NQ @eP w.iX @bk @bh @br ba.lX @e1 ?_;exact ⟨j+1,by show _-_<_-_;omega,_,_,_,p,rest,rfl,aM @t2,aM @t6,aM @S,aM @J,aM @N,aM @ak,aM @ac,aG,k1,k5,by rw [Nat.max_eq_right aC];rw [Nat.max_eq_right aC]at k3;exact k3,k4,aw⟩
    ·obtain rfl:j=V.length:=Nat.le_antisymm hj ch
     rw [List.drop_of_length_le (by rw [List.length_map];omega),List.nil_append]at k3;have e1:(((V.length:Nat):Int)<((V.length:Nat):Int))=False:=eq_false (Int.lt_irrefl _);refine EW @N @ac @bd @e1 @ct ?_;exact ⟨i+1,by show _-_<_-_;omega,_,_,_,_,p,rest,rfl,aM @t2,aM @S,aM @J,aG,aC,k1,fun id D r=>(k5 id aC r).trans ((ai id aC).trans (k2 id D r)),k3,k4,af⟩
   ·obtain rfl:i=X.length:=Nat.le_antisymm hi av
    rw [List.drop_length]at k3;cases k3;have e1:(((X.length:Nat):Int)<((X.length:Nat):Int))=False:=eq_false (Int.lt_irrefl _);refine GU @J @N @e1 ?_;rw [List.append_nil]at k4;subst k4
    have hd:(Sto.mk n low o').get (n0+1+1)=some (.defs (some [])):=by rw [Sto.get_mk (show n0+1+1<n by omega),k2 _ aC aC];exact bj
    refine ⟨rfl,_,sT hd,[],rfl,?_,fun id D r=>?_,.und _ (kU aD)⟩
    ·rw [Sto.get_put_ne _ _ aC,Sto.get_mk (show m<n by omega)];exact k1
    ·rw [Sto.get_put_ne _ _ aC,Sto.get_mk (show id<n by omega),k2 id aC r];exact ci id D r
end
section
variable {ns fs mm cs os ts us is no:AV}
abbrev IA (os ts us is no:AV):List AV->Option AV:=wX (fun w a=>w=dP os ts us is no/\∃ l:List Nat,a=aW l/\(∀ k∈l,k<ts.els.length)/\l.length<=1000/\0<os.els.length) fun _ a=>.fz (aI (kA os ts (zM a))) false
theorem aEq (h:GW os ts us is no):Abs.Ok Tryz.prog 43 (IA os ts us is no):=ok2 fun w a ⟨c,l,d,e,b,f⟩=>by
 subst c;subst d;rw [lI b];exact aLa h e b f
theorem aKw:bM Tryz.prog (bG 95 (ROb ns fs mm cs)):=eO fun _ _ _ h=>by obtain ⟨_,_,_,_,_,_,_,_,_,_,_,h⟩:=h;exact h
theorem aKx (w:dD (.agg [ns,fs,mm,cs])) (u:GP ns.els fs.els) {c m g:Nat} {M:List Bool} {o:AV} {out:List Nat} {s:Sto} (h:CoS ns fs mm cs c m g M s) (v:OkO ns.els fs.els o) (a:Run (mM ns.els fs.els) M (SP ns.els fs.els o) out) (L:List kG):
 orcL (bG 95 (ROb ns fs mm cs)::L) 95 [.ptr c 0 0,o] s=some (.ret (.tuple []) (some ⟨s.n,0,s.o.set m (aQ g (aI (aO M out)))⟩)):=by
 obtain ⟨res,d,k⟩:=dX (f:=95) (OC w u h v a);obtain ⟨A,C,B,y,o',b,e,l,_,q,r,_⟩:=d;simp only [List.cons.injEq,AV.ptr.injEq,and_true]at e;obtain ⟨rfl,rfl⟩:=e;obtain ⟨rfl,rfl,rfl⟩:=h.uniq l;obtain rfl:=a.det q;rw [k L,r]
def cW (K:List Bool) (N i:Nat):List Nat:=(List.range' i (N-i)).filter fun x=>decide (K[x]?=some true)
theorem GY {K:List Bool} {N i:Nat} (h:i<N):cW K N i=if K[i]?=some true then i::cW K N (i+1) else cW K N (i+1):=by
 obtain ⟨k,rfl⟩:∃ k,N=i+1+k:=⟨N-i-1,aC⟩
 rw [cW,show i+1+k-i=k+1 by omega,List.range'_succ,List.filter_cons,cW,show i+1+k-(i+1)=k by omega];by_cases a:K[i]?=some true<;>simp [a]
theorem KB {K:List Bool} {N:Nat}:cW K N N=[]:=by simp [cW]
def ZV (o:AV):List Nat:=(o.fld 3).els.map fun f=>(f.fld 0).num.toNat
theorem WX {ns fs:List AV} (d:GP ns fs) {n y:Nat} (h:y∈sJ ns fs n):y<ns.length:=by
 unfold sJ at h;split at h
 ·rename_i a
  obtain rfl:=List.mem_singleton.1 h
  have e:n<ns.length:=by
   rcases Nat.lt_or_ge n ns.length with h | h
   ·exact h
   ·rw [List.getD_eq_getElem?_getD,List.getElem?_eq_none h]at a
    simp [AV.fld,AV.num]at a
  have f:=List.getElem_mem e
  have b:ns.getD n .top=ns[n]:=by rw [List.getD_eq_getElem?_getD,List.getElem?_eq_getElem e];rfl
  rw [b]at a ⊢;have k:=d.nam _ f a.1 a.2
  have c:(-1-((ns[n]).fld 1).num).toNat<fs.length:=by omega
  have l:=d.bod _ (List.getElem_mem c);rw [List.getD_eq_getElem?_getD,List.getElem?_eq_getElem c];simp only [Option.getD_some];omega
 ·cases h
theorem DK {ns fs:List AV} (c:GP ns fs) {n y:Nat} (h:y∈gD ns n):y<ns.length:=by
 unfold gD at h;obtain ⟨x,b,rfl⟩:=List.mem_map.1 h
 rcases Nat.lt_or_ge n ns.length with a | a
 ·rw [List.getD_eq_getElem?_getD,List.getElem?_eq_getElem a]at b
  have:=c.kid n _ (List.getElem?_eq_getElem a) x b;omega
 ·rw [List.getD_eq_getElem?_getD,List.getElem?_eq_none a]at b
  simp [AV.fld,AV.els]at b
theorem KC {ns fs:List AV} (a:GP ns fs) {n y:Nat} (h:y∈mM ns fs n):y<ns.length:=
 (List.mem_append.1 h).elim (DK a) (WX a)
theorem aKy {ns fs:List AV} (c:GP ns fs) {o:AV} (e:OkO ns fs o) {y:Nat} (h:y∈SP ns fs o):y<ns.length:=by
 rcases List.mem_append.1 h with h | h
 ·obtain ⟨v,l,b⟩:=List.mem_filterMap.1 h
  split at b
  ·rename_i k
   cases b;obtain ⟨q,r⟩:=e.val v l k
   have a:(v.fld 1).num.toNat<fs.length:=by omega
   have u:=c.bod _ (List.getElem_mem a);rw [List.getD_eq_getElem?_getD,List.getElem?_eq_getElem a];simp only [Option.getD_some];omega
  ·cases b
 ·rcases List.mem_append.1 h with h | h
  ·unfold JZ at h
   split at h
   ·rename_i a
    obtain ⟨_,_,d⟩:=e.knd a;obtain rfl:=List.mem_singleton.1 h;rw [List.getD_eq_getElem?_getD,List.getElem?_eq_getElem d];exact DK c (List.getElem_mem d)
   ·cases h
  ·obtain ⟨f,_,m⟩:=List.mem_flatMap.1 h
   exact DK c (List.mem_of_mem_drop m)
def IB (ns fs os:List AV) (l:List Nat):List Nat:=l.flatMap fun x=>SP ns fs (os.getD x .top)
def jG (os:List AV) (l:List Nat):List Nat:=l.flatMap fun x=>ZV (os.getD x .top)
def AW (ns fs:List AV) (l:List Nat):List Nat:=l.flatMap (sJ ns fs)
def hCd:dG:=fun r=>if r=2 then ([3,4],[]) else ([],[])
theorem aWc:hCd 2=([3,4],[])/\hCd 1=([],[]):=⟨rfl,rfl⟩
set_option maxHeartbeats 8000000 in
theorem aKz (hp:dD (.agg [ns,fs,mm,cs])) (hg:GP ns.els fs.els) (h:GW os ts us is no) (ho:∀ o∈os.els,OkO ns.els fs.els o) {k:Nat} (hk:k<ts.els.length) {K:List Bool} (hK:K=kA os ts (dC os ts k)) {out:List Nat} (ac:Run (mM ns.els fs.els) (List.replicate ns.els.length false) (IB ns.els fs.els os.els (cW K os.els.length 0)++AW ns.els fs.els (jG os.els (cW K os.els.length 0))) out) (ca:(jG os.els (cW K os.els.length 0)).length<=100000):
 Abs.Returns Tryz.prog 58 [.agg [ns,fs,mm,cs],dP os ts us is no,.int .i64 (k:Nat)] (.fz (aI (aO (aO (List.replicate ns.els.length false) out) (jG os.els (cW K os.els.length 0)))) false):=by
 have cv:=(cL _ hp).1;have cw:=h.g.und;obtain ⟨c0,c1,c2,c3,c4⟩:=h.g.cells;have hm:ts.els.length<=120:=Nat.le_trans h.l h.ol
 have h0:0<os.els.length:=by have:=h.l;omega
 have bn:(dC os ts k).length<=1000:=Nat.le_trans (uL os ts k) aC
 have cn:∀ j∈dC os ts k,j<ts.els.length:=fun j hj=>List.mem_range.1 (List.mem_filter.1 hj).1
 have co:IF os ts us is no [.agg [os,ts,us,is,no],.int .i64 (k:Nat)]=some (aW (dC os ts k)):=by
  rw [IF,sg2_eq (b:=.int .i64 (k:Nat)) ⟨rfl,k,hk,rfl⟩];rfl
 have bp:IA os ts us is no [.agg [os,ts,us,is,no],aW (dC os ts k)]=some (.fz (aI (kA os ts (dC os ts k))) false):=by
  rw [IA,sg2_eq (b:=aW (dC os ts k)) ⟨rfl,_,rfl,cn,bn,h0⟩,lI bn]
 obtain ⟨a0,a1,a2,a3,e,av,bh,bq,be⟩:=id hp;simp only [AV.agg.injEq,List.cons.injEq,and_true]at e;obtain ⟨rfl,rfl,rfl,rfl⟩:=e;have d0:=(bP _ av).2;have d1:=(aT _ bh).2;have d2:=(tu_int _ bq).2;have d3:=(cJ _ be).2;have bs:=av;obtain ⟨m,N,c8⟩:=av;have ct:=hg.nl;rw [N.els]at ct;rw [<-hK]at bp;refine bU (L:=[ent 36 (IF os ts us is no),ent 43 (IA os ts us is no),bG 95 (ROb ns fs mm cs),bG 96 (DN ns fs mm cs ns.els.length)]) (elist_cons (aFe h).ent (elist_cons (aEq h).ent (elist_cons aKw (elist_cons WY aE)))) hCd (by kernel_rfl) Tryz.func58 Tryz.ntmps58 Tryz.results58 rfl rfl (aA cv.und (aA cw.und (aA aV aD))) ?_;have u0:=(bP _ bs).1.mono (Nat.zero_le 3);have u1:=(aT _ bh).1.mono (Nat.zero_le 3);have u2:=(tu_int _ bq).1.mono (Nat.zero_le 3);have u3:=(cJ _ be).1.mono (Nat.zero_le 3);obtain ⟨H,ae,b9⟩:=h.g.os;have an:=ae.els;have cu:=h.ol;rw [an]at ho ac cu ca ⊢
 have b5:K.length=H.length:=by rw [hK,zK,an]
 have cc:(aI K).length=H.length:=by rw [cZ,b5]
 have bb:Sl (.fz (aI K) false) (aI K):=⟨.inr ⟨_,rfl⟩,by rw [cc];omega⟩
 rw [N.els]at ac ⊢;have c5:cA [AV.nils,AV.nils,AV.int .i64 0,AV.nils,AV.nils] 0 [ns,fs,mm,cs]=[ns,fs,mm,cs,.nils]:=rfl;have de:∀ {a:AV},cA [ns,fs,mm,cs,AV.nils] 4 [a]=[ns,fs,mm,cs,a]:=rfl;simp +contextual +decide (maxSteps:=1000000) only [↓ wP,wQ,tf,Nat.reduceAdd,wS,aWc,c5,c0,c1,c2,c3,c4,d0,d1,d2,d3,u0,u1,u2,u3,N.len,N.stab,ae.len,lK (n:=m.length) (show m.length<=1000 by omega),XH,co,bp];generalize b6:List.replicate m.length false=w at *
 have U:w.length=m.length:=by rw [<-b6,List.length_replicate]
 have Z:∀ x∈jG H (cW K H.length 0),x<m.length:=fun x hx=>by
  obtain ⟨y,hy,hx⟩:=List.mem_flatMap.1 hx;obtain ⟨f,hf,rfl⟩:=List.mem_map.1 hx
  have bx:y<H.length:=by
   have:=List.mem_range'_1.1 (List.mem_filter.1 hy).1;omega
  rw [List.getD_eq_getElem?_getD,List.getElem?_eq_getElem bx]at hf;have:=(ho _ (List.getElem_mem bx)).frm f hf;rw [N.els]at this;omega
 have fin:∀ {n low:Nat} {o:Tr AObj} {M:List Bool},4<=n->M.length=m.length->o.get 2=some (aQ 0 (aI M))->Frz ⟨n,low,o⟩ 0 (.sl 2 0 0 m.length (.is m.length)) (.fz (aI M) false):=fun {n low o M} hn hM hg=>by
  refine rC (g:=0) (cs:=aI M) (Nat.zero_le _) ((Sto.get_mk (show 2<n by omega)).trans hg) (by rw [cZ,hM]) (by rw [cZ,hM];omega) (fun x hx=>?_) fun j x y hx hy=>?_
  ·obtain ⟨b,_,rfl⟩:=List.mem_map.1 hx;rfl
  ·rw [Nat.zero_add]at hx
   rw [hx]at hy;cases hy;obtain ⟨b,_,rfl⟩:=List.mem_map.1 (List.mem_of_getElem? hx);exact .und _ aJ
 generalize bc:jG H (cW K H.length 0)=all at *
 refine aL (fun i e=>∃ t n low o v p rest nm,e=⟨86,none,58,t,[],⟨n,low,o⟩,.no⟩/\t.val 7=.ptr 3 0 0/\t.val 8=.fz (aI K) false/\t.val 9=v/\t.val 31=os/\t.val 32=.int .i64 (H.length:Nat)/\t.val 33=.int .i64 (i:Nat)/\o.get 3=some (aQ 0 [ns,fs,mm,cs,.sl 2 0 0 m.length (.is m.length)])/\o.get 2=some (aQ 0 (aI (aO w p)))/\4<=n/\AccI 4 v n o (aU nm)/\all=nm++jG H (cW K H.length i)/\Run (mM m fs.els) (aO w p) (IB m fs.els H (cW K H.length i)++AW m fs.els all) rest/\out=p++rest/\i<=H.length) (fun i=>H.length-i) 0
  ⟨_,_,_,_,.nils,[],out,[],rfl,aG,aG,aG,aG,aG,eA,aG,by rw [show aO w []=w from rfl];exact qO,Nat.le_refl _,.inl ⟨rfl,rfl⟩,by rw [<-bc];rfl,ac,rfl,Nat.zero_le _⟩ ?_
 rintro i _ ⟨t,n,low,o,v,p,rest,nm,rfl,u,t8,G,F,r,C,I,O,hn,hA,B,S,E,hi⟩;have f2:=dO (show 2<n by omega);have f3:=dO (show 3<n by omega)
 rcases Nat.lt_or_ge i H.length with ak | cj
 ·obtain ⟨x,ba,cr,cl,_,bo,bv,bf⟩:=bB (k:=4) (fun x h=>tk_ob.len h) b9 ae.2 ak
  have bt:=ho x cr
  have bk:H.getD i .top=x:=by rw [List.getD_eq_getElem?_getD,cl];rfl
  have ap:K[i]?=some K[i]:=List.getElem?_eq_getElem aC
  have cb:(aI K)[i]?=some (.bool K[i]):=by rw [gS,ap];rfl
  have bl:=fun {q:IntKind} {d:Option AV}=>iQ (k:=1) cb rfl (q:=q) (d:=d)
  have aj:=GY (K:=K) ak;obtain ⟨_,cx,e,aa,am⟩:=tk_ob x ba;subst e;generalize K[i]=b at *
  cases b with
  | false=>
    rw [ap,if_neg (by simp)]at aj;rw [aj]at S B
    have ag:AccI 4 v (n+1) ((o.set n (aQ 0 [.int .i64 0,.int .i64 0,.nils,.nils])).set n (aQ 0 cx)) (aU nm):=hA.keep (Nat.le_succ n) fun id _ h2=>by rw [Tr.get_set_ne _ _ aC,Tr.get_set_ne _ _ aC]
    refine tI @t8 @F @r @C @eP ae.iX @bo @bf @bv @aa @am bb.iX @bl ?_;exact ⟨i+1,by show _-_<_-_;omega,_,_,_,_,v,p,rest,nm,rfl,aM @u,aM @t8,aM @G,aM @F,aM @r,aG,ag2 @I @f3,ag2 @O @f2,aC,ag,B,S,E,ak⟩
  | true=>
    rw [ap,if_pos rfl]at aj;rw [aj]at S B;rw [IB,List.flatMap_cons,bk,List.append_assoc]at S;rw [jG,List.flatMap_cons,bk]at B;obtain ⟨p1,p2,r1,r2,r3⟩:=S.split (SP m fs.els (.agg cx)) _ rfl;rw [bQ]at r2;have P:(aO w p).length=m.length:=(bK _ _).trans U
    have J:∀ {n low:Nat} {o':Tr AObj},4<=n->o'.get 3=some (aQ 0 [ns,fs,mm,cs,.sl 2 0 0 m.length (.is m.length)])->o'.get 2=some (aQ 0 (aI (aO w p)))->orcL [ent 36 (IF os ts us is no),ent 43 (IA os ts us is no),bG 95 (ROb ns fs mm cs),bG 96 (DN ns fs mm cs m.length)] 95 [.ptr 3 0 0,.agg cx] ⟨n,low,o'⟩=some (.ret (.tuple []) (some ⟨n,0,o'.set 2 (aQ 0 (aI (aO w (p++p1))))⟩)):=fun {n low o'} q0 q1 q2=>by
     have hC:CoS ns fs mm cs 3 2 0 (aO w p) ⟨n,low,o'⟩:=CoS.mk' aC aC (by rw [P];exact q1) q2 (by rw [P,N.els]) aC;have:=aKx hp hg hC bt (by rw [N.els];exact r1) [bG 96 (DN ns fs mm cs m.length)];rw [bQ]at this;exact this
    have au:4<=n+1:=by omega
    have ao:=bt.frm;obtain ⟨fk,R,V,Q,e,⟨fk,rfl⟩,⟨R,rfl⟩,dc,bg⟩:=id ba;simp only [AV.agg.injEq]at e;subst e;have c9:=(gZ _ bg).2;obtain ⟨X,ad,b8⟩:=bg;rw [show ((AV.agg [.int .i64 fk,.int .i64 R,V,Q]).fld 3).els=X from ad.els]at ao
    have ci:ZV (.agg [.int .i64 fk,.int .i64 R,V,Q])=X.map fun f=>(f.fld 0).num.toNat:=congrArg _ ad.els
    rw [ci]at B;simp +contextual +decide (maxSteps:=1000000) only [↓ wP,wQ,tf,Nat.reduceAdd,wS,u,t8,F,r,C,f2,f3,eP,ae.idx,bo,bf,aa,am,eY aa,bb.idx,bl,O,I,J,au,ad.len]
    have ag:AccI 4 v (n+1) (((o.set n (aQ 0 [AV.int IntKind.i64 0,AV.int IntKind.i64 0,AV.nils,AV.nils])).set n (aQ 0 [AV.int IntKind.i64 fk,AV.int IntKind.i64 R,V,Q])).set 2 (aQ 0 (aI (aO w (p++p1))))) (aU nm):=hA.keep (Nat.le_succ n) fun id q1 q2=>by rw [Tr.get_set_ne _ _ aC,Tr.get_set_ne _ _ aC,Tr.get_set_ne _ _ aC]
    have bj:(((o.set n (aQ 0 [AV.int IntKind.i64 0,AV.int IntKind.i64 0,AV.nils,AV.nils])).set n (aQ 0 [AV.int IntKind.i64 fk,AV.int IntKind.i64 R,V,Q])).set 2 (aQ 0 (aI (aO w (p++p1))))).get 3=some (aQ 0 [ns,fs,mm,cs,.sl 2 0 0 m.length (.is m.length)]):=by rw [Tr.get_set_ne _ _ aC,Tr.get_set_ne _ _ aC,Tr.get_set_ne _ _ aC];exact I
    have bi:(((o.set n (aQ 0 [AV.int IntKind.i64 0,AV.int IntKind.i64 0,AV.nils,AV.nils])).set n (aQ 0 [AV.int IntKind.i64 fk,AV.int IntKind.i64 R,V,Q])).set 2 (aQ 0 (aI (aO w (p++p1))))).get 2=some (aQ 0 (aI (aO w (p++p1)))):=Tr.get_set_same _ _ _;generalize ((o.set n (aQ 0 [AV.int IntKind.i64 0,AV.int IntKind.i64 0,AV.nils,AV.nils])).set n (aQ 0 [AV.int IntKind.i64 fk,AV.int IntKind.i64 R,V,Q])).set 2 (aQ 0 (aI (aO w (p++p1))))=o1 at *
    refine aL (fun j e=>∃ t n low o v,e=⟨86,none,58,t,[],⟨n,low,o⟩,.no⟩/\t.val 7=.ptr 3 0 0/\t.val 8=.fz (aI K) false/\t.val 9=v/\t.val 31=os/\t.val 32=.int .i64 (H.length:Nat)/\t.val 33=.int .i64 (i:Nat)/\t.val 46=Q/\t.val 47=.int .i64 (X.length:Nat)/\t.val 48=.int .i64 (j:Nat)/\o.get 3=some (aQ 0 [ns,fs,mm,cs,.sl 2 0 0 m.length (.is m.length)])/\o.get 2=some (aQ 0 (aI (aO w (p++p1))))/\4<=n/\AccI 4 v n o (aU (nm++((X.take j).map fun f=>(f.fld 0).num.toNat)))/\j<=X.length) (fun j=>X.length-j) 0
     ⟨_,_,_,_,v,rfl,aM @u,aM @t8,aM @G,aM @F,aM @r,aM @C,aG,aG,eA,bj,bi,au,by rw [List.take_zero,List.map_nil,List.append_nil];exact ag,Nat.zero_le _⟩ ?_
    clear u t8 G F r C f2 f3 hA ag O I bi bj hn au;rintro j _ ⟨t,n,low,o,v,rfl,u,t8,G,F,r,C,b0,ay,b1,I,O,hn,hA,hj⟩;have f2:=dO (show 2<n by omega);have f3:=dO (show 3<n by omega)
    rcases Nat.lt_or_ge j X.length with A | ab
    ·obtain ⟨f,b4,cq,ck,db,cm,cy,bd⟩:=bB (k:=3) (fun x h=>tk_fr.len h) b8 ad.2 A
     have ch:=ao f cq;obtain ⟨a,b,d,rfl,⟨ka,rfl⟩,hb,hd⟩:=b4;have ce:=(tu_vals b hb).2;have cf:=(tu_vals d hd).2;rw [show ((AV.agg [.int .i64 ka,b,d]).fld 0).num=ka from rfl]at ch
     obtain ⟨z,rfl⟩:∃ z:Nat,ka=(z:Nat):=⟨ka.toNat,aC⟩
     have aw:nm++((X.take (j+1)).map fun f=>(f.fld 0).num.toNat)=nm++((X.take j).map fun f=>(f.fld 0).num.toNat)++[z]:=by
      rw [List.take_add_one,ck,List.map_append,<-List.append_assoc];rfl
     have s1:∀ {a:AV},[AV.int .i64 0].set (0*1) a=[a]:=rfl;have da:=hA.cell
     let o2:=((o.set n (aQ 0 [AV.int IntKind.i64 0,AV.nils,AV.nils])).set n (aQ 0 [.int .i64 (z:Nat),b,d])).set (n+1) (aQ 0 [.int .i64 (z:Nat)])
     have b3:AccI 4 v (n+1+1) o2 (aU (nm++((X.take j).map fun f=>(f.fld 0).num.toNat))):=hA.keep aC fun id q1 q2=>by
      show o2.get id=_;rw [Tr.get_set_ne _ _ aC,Tr.get_set_ne _ _ aC,Tr.get_set_ne _ _ aC]
     obtain ⟨v',n',c7,o',q1,q2,q3,q4,_⟩:=b3.app (low:=n.min low) (by_:=8) dU (x:=.int .i64 (z:Nat)) rfl aC (by
      have hx:=congrArg List.length B;simp only [List.length_append,List.length_map]at hx
      rw [aS,List.length_append,List.length_map,List.length_take];omega)
     simp +contextual +decide (maxSteps:=1000000) only [↓ wP,wQ,tf,Nat.reduceAdd,wS,G,b0,ay,b1,eP,ad.idx,cm,cy,bd,ce,cf,s1,q1,o2];exact ⟨j+1,by show _-_<_-_;omega,_,_,_,_,v',rfl,aM @u,aM @t8,aG,aM @F,aM @r,aM @C,aM @b0,aM @ay,aG,by rw [q4 3 aC,Tr.get_set_ne _ _ aC,Tr.get_set_ne _ _ aC,Tr.get_set_ne _ _ aC];exact I,by rw [q4 2 aC,Tr.get_set_ne _ _ aC,Tr.get_set_ne _ _ aC,Tr.get_set_ne _ _ aC];exact O,aC,by rw [aw,gI];exact q2,A⟩
    ·obtain rfl:j=X.length:=Nat.le_antisymm hj ab
     rw [List.take_length]at hA;have e1:(((X.length:Nat):Int)<((X.length:Nat):Int))=False:=eq_false (Int.lt_irrefl _);refine EW @C @ay @b1 @e1 @bv ?_;exact ⟨i+1,by show _-_<_-_;omega,_,_,_,_,v,p++p1,p2,_,rfl,aM @u,aM @t8,aM @G,aM @F,aM @r,aG,I,O,hn,hA,by rw [List.append_assoc];exact B,r2,by rw [E,r3,List.append_assoc],ak⟩
 ·obtain rfl:i=H.length:=Nat.le_antisymm hi cj
  rw [KB]at S B;change Run _ _ (AW m fs.els all) rest at S;change all=nm++[]at B;rw [List.append_nil]at B;subst B;have e1:(((H.length:Nat):Int)<((H.length:Nat):Int))=False:=eq_false (Int.lt_irrefl _)
  rcases hA with ⟨e,rfl⟩ | ⟨dd,id,g,c,rfl,_,D,cp,bm⟩
  ·have br:all=[]:=List.map_eq_nil_iff.1 e
   subst br;cases S;rw [List.append_nil]at E;subst E;refine CT @G @r @C @e1 ?_;refine aL (fun (_:Nat) e=>∃ t,e=⟨86,none,58,t,[],⟨n,low,o⟩,.no⟩/\t.val 7=.ptr 3 0 0/\t.val 9=.nils/\t.val 60=.int .i64 0/\t.val 61=.int .i64 0) (fun _=>0) 0 ⟨_,rfl,aM @u,aM @G,aG,aG⟩ ?_;clear u t8 G F r C;rintro _ _ ⟨t,rfl,u,G,T,Y⟩;refine GU @G @T @Y ?_;refine aL (fun (_:Nat) e=>∃ t,e=⟨86,none,58,t,[],⟨n,low,o⟩,.no⟩/\t.val 7=.ptr 3 0 0/\t.val 70=.int .i64 0/\t.val 71=.int .i64 0) (fun _=>0) 0 ⟨_,rfl,aM @u,aG,aG⟩ ?_;clear u G T Y;rintro _ _ ⟨t,rfl,u,af,al⟩;refine EW @u @af @al @I @f3 ?_;exact fin hn ((bK _ _).trans ((bK _ _).trans U)) O
  ·rw [aS]at G
   have fi:=dO bm;have c6:=cp;refine CT @G @r @C @e1 ?_
   refine aL (fun j e=>∃ t low o p rest,e=⟨86,none,58,t,[],⟨n,low,o⟩,.no⟩/\t.val 7=.ptr 3 0 0/\t.val 9=.sl id g 0 all.length c/\t.val 59=.sl id g 0 all.length c/\t.val 60=.int .i64 (all.length:Nat)/\t.val 61=.int .i64 (j:Nat)/\o.get 3=some (aQ 0 [ns,fs,mm,cs,.sl 2 0 0 m.length (.is m.length)])/\o.get 2=some (aQ 0 (aI (aO w p)))/\o.get id=some (aQ g (aU all))/\Run (mM m fs.els) (aO w p) (AW m fs.els (all.drop j)) rest/\out=p++rest/\j<=all.length) (fun j=>all.length-j) 0
    ⟨_,_,_,p,rest,rfl,aM @u,aM @G,aG,aG,eA,I,O,D,S,E,Nat.zero_le _⟩ ?_
   clear u t8 G F r C O I D S E;rintro j _ ⟨t,low,o,p,rest,rfl,u,G,az,T,Y,I,O,D,S,E,hj⟩
   rcases Nat.lt_or_ge j all.length with A | ab
   ·have ai:=List.getElem?_eq_getElem A
    have cg:all.drop j=all[j]::all.drop (j+1):=List.drop_eq_getElem_cons A;have ar:=List.getElem_mem A;generalize all[j]=x at *;rw [cg,AW,List.flatMap_cons]at S;obtain ⟨p1,p2,r1,r2,r3⟩:=S.split (sJ m fs.els x) _ rfl;rw [bQ]at r2;have bw:x<m.length:=Z x ar;have P:(aO w p).length=m.length:=(bK _ _).trans U;have hC:CoS ns fs mm cs 3 2 0 (aO w p) ⟨n,low,o⟩:=CoS.mk' aC aC (by rw [P];exact I) O (by rw [P,N.els]) aC
    have bz:Run (mM ns.els fs.els) (aO w p) (sJ ns.els fs.els x) p1:=by rw [N.els];exact r1
    have J:=WZ hC bz (DO (k:=m.length) hp hg (fun q1 q2 q3 q4=>wC hp hg m.length q1 q2 q3 q4) hC aC bz (by have:=pL (aO w p);omega)) [];rw [Sto.put_any,bQ]at J;have ah:orcL [ent 36 (IF os ts us is no),ent 43 (IA os ts us is no),bG 95 (ROb ns fs mm cs),bG 96 (DN ns fs mm cs m.length)] 96 [.ptr 3 0 0,.int .i64 (x:Nat)] ⟨n,low,o⟩=_:=J;have e2:(((j:Nat):Int)<((all.length:Nat):Int))=True:=eq_true aC;have e3:(0<=((j:Nat):Int))=True:=eq_true aC
    have ax:IntKind.i64.wrap ((j:Int)+1)=((j+1:Nat):Int):=by rw [IntWalk.i64_in _ aC];rfl
    have aq:=cP ai;refine CE @u @az @T @Y @e2 @e3 @ax @aq @D @fi @ah @Int.toNat_natCast @Nat.mul_one @Nat.zero_add ?_;exact ⟨j+1,by show _-_<_-_;omega,_,_,_,p++p1,p2,rfl,aM @u,aM @G,aM @az,aM @T,aG,by rw [Tr.get_set_ne _ _ aC];exact I,Tr.get_set_same _ _ _,by rw [Tr.get_set_ne _ _ aC];exact D,r2,by rw [E,r3,List.append_assoc],A⟩
   ·obtain rfl:j=all.length:=Nat.le_antisymm hj ab
    rw [List.drop_length]at S;cases S;rw [List.append_nil]at E;subst E;have e2:(((all.length:Nat):Int)<((all.length:Nat):Int))=False:=eq_false (Int.lt_irrefl _);refine CT @G @T @Y @e2 ?_;have P:(aO w out).length=m.length:=(bK _ _).trans U;generalize aO w out=M1 at *
    refine aL (fun j e=>∃ t low o,e=⟨86,none,58,t,[],⟨n,low,o⟩,.no⟩/\t.val 7=.ptr 3 0 0/\t.val 69=.sl id g 0 all.length c/\t.val 70=.int .i64 (all.length:Nat)/\t.val 71=.int .i64 (j:Nat)/\o.get 3=some (aQ 0 [ns,fs,mm,cs,.sl 2 0 0 m.length (.is m.length)])/\o.get 2=some (aQ 0 (aI (aO M1 (all.take j))))/\o.get id=some (aQ g (aU all))/\j<=all.length) (fun j=>all.length-j) 0
     ⟨_,_,_,rfl,aM @u,aG,aG,eA,I,O,D,Nat.zero_le _⟩ ?_
    clear u G az T Y O I D hj;rintro j _ ⟨t,low,o,rfl,u,b2,af,al,I,O,D,hj⟩
    rcases Nat.lt_or_ge j all.length with A | ab
    ·have ai:=List.getElem?_eq_getElem A
     have ar:=List.getElem_mem A;generalize all[j]=x at *;have bw:x<m.length:=Z x ar;have bu:=DL (M:=M1) ai
     have b7:(aI (aO M1 (all.take j))).length=m.length:=by rw [cZ,bK];exact P
     have cd:=kJ (M:=aO M1 (all.take j)) (n:=x)
     have cz:x<(aI (aO M1 (all.take j))).length:=by rw [b7];exact bw
     have e2:(((j:Nat):Int)<((all.length:Nat):Int))=True:=eq_true aC;have e3:(0<=((j:Nat):Int))=True:=eq_true aC;have e4:(((x:Nat):Int)<((m.length:Nat):Int))=True:=eq_true aC;have e5:(0<=((x:Nat):Int))=True:=eq_true aC
     have ax:IntKind.i64.wrap ((j:Int)+1)=((j+1:Nat):Int):=by rw [IntWalk.i64_in _ aC];rfl
     have aq:=cP ai;simp +contextual +decide (maxSteps:=1000000) only [↓ wP,wQ,tf,wS,u,b2,af,al,e2,e3,e4,e5,ax,aq,D,fi,I,O,f2,f3,cd,cz,Int.toNat_natCast,Nat.mul_one,Nat.zero_add];exact ⟨j+1,by show _-_<_-_;omega,_,_,_,rfl,aM @u,aM @b2,aM @af,aG,by rw [Tr.get_set_ne _ _ aC];exact I,by rw [Tr.get_set_same,bu],by rw [Tr.get_set_ne _ _ aC];exact D,A⟩
    ·obtain rfl:j=all.length:=Nat.le_antisymm hj ab
     rw [List.take_length]at O;have e2:(((all.length:Nat):Int)<((all.length:Nat):Int))=False:=eq_false (Int.lt_irrefl _);refine PJ @u @af @al @e2 @I @f3 ?_;exact fin hn ((bK _ _).trans P) O
end
end
end Go.Proofs.YtdipddlhenoglaaGreat
