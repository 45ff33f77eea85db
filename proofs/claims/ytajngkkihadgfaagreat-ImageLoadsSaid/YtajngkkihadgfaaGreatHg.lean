/-
  The reference of images: its reader reads lists of values.
-/
import Derived.Test.YtajngkkihadgfaaGreatHd
namespace Go.Proofs.YtajngkkihadgfaaGreat
open Go.Abs Go Go.Abs.TryzF
noncomputable section
set_option maxRecDepth 10000
def mL (l:List Nat) (n:Nat):Nat->Nat->List eZ->Nat × Bool->List eZ × Nat × Bool
 | 0,_,acc,st=>(acc,st)
 | k+1,i,acc,st=>if i<n/\i<=30/\st.2=false then mL l n k (i+1) (acc++[((((eN l st).1:Nat):Int),(eJ l (eN l st).2).1)]) (eJ l (eN l st).2).2 else (acc,st)
def jB (l:List Nat) (st:Nat × Bool):List eZ × Nat × Bool:=mL l (fG l st).1 32 0 [] (fG l st).2
def bO (l:List eZ):AV:=if l=[] then .nils else .fz (l.map eH) false
def dX (l:List Nat) (st:Nat × Bool):AV × Nat × Bool:=(bO (jB l st).1,(jB l st).2)
def yM (v:eZ):List AV:=[.int .i64 v.1,.int .i64 v.2]
theorem tT (l:List eZ):∀ x∈l.map yM,x.length=2:=fun x hx=>by obtain ⟨y,_,rfl⟩:=List.mem_map.1 hx;rfl
theorem aDj (l:List eZ):(l.map yM).map .agg=l.map eH:=by rw [List.map_map];rfl
def VAcc (n0 n:Nat) (o:Tr AObj) (v:AV) (l:List eZ):Prop:=(l=[]/\v=.nils)∨(l≠[]/\∃ id g,v=.sl id g 0 l.length (.room 2)/\o.get id=some (aU g (l.map yM).flatten)/\n0<=id/\id<n)
theorem VAcc.frz {n0 n low:Nat} {o:Tr AObj} {v:AV} {l:List eZ} (h:VAcc n0 n o v l):Frz ⟨n,low,o⟩ n0 v (bO l):=by
 rcases h with ⟨rfl,rfl⟩ | ⟨hl,id,g,rfl,hid,h1,h2⟩
 ·exact .und _ dR
 ·rw [bO,if_neg hl,<-aDj]
  refine KW (g:=g) (k:=2) h1 (by rw [Sto.get_mk h2];exact hid) (by simp) (tT _) fun x hx y hy=>?_
  obtain ⟨z,_,rfl⟩:=List.mem_map.1 hx
  simp only [yM,List.mem_cons,List.not_mem_nil,or_false]at hy
  rcases hy with rfl | rfl<;>exact aO
theorem nX {l:List Nat} {st:Nat × Bool} (h:dT l st):dT l (eJ l st).2:=(iB h).2
theorem IZ {l:List Nat} {n:Nat}:∀ (k i:Nat) (acc:List eZ) (st:Nat × Bool),dT l st->dT l (mL l n k i acc st).2
 | 0,_,_,_,h=>h
 | k+1,i,acc,st,h=>by
   unfold mL
   split
   ·exact IZ k _ _ _ (nX (sM h).2)
   ·exact h
theorem rE {l:List Nat} {st:Nat × Bool} (h:dT l st):dT l (jB l st).2:=IZ _ _ _ _ (iB h).2
theorem rF {n low low' r n':Nat} {o o':Tr AObj} {x:AObj} {rv v:AV} (hr:r<n) (hn:n<=n') (hl:r<=low') (hx:o'.get r=some x) (ho:∀ id,id<n->id≠r->o'.get id=o.get id) (hv:Frz ⟨n',low',o'⟩ n rv v):BP ⟨n,low,o⟩ r x v ⟨n',low',o'⟩ rv:=by
 refine ⟨hl,by rw [Sto.get_mk (by omega)];exact hx,fun id hid hne=>?_,hv⟩
 have hid':id<n:=hid
 rw [Sto.get_mk hid',Sto.get_mk (by omega)];exact ho id hid' hne
set_option maxHeartbeats 2000000 in
theorem YT:∀ args s res,yR dX args s res->eF Tryz.prog 131 args s res:=by
 rintro args ⟨n0,low0,o0⟩ res ⟨r,l,st0,rfl,hr,hg,hok,rfl⟩
 have hr':r<n0:=hr
 rw [Sto.get_mk hr']at hg
 refine pH (L:=[bU 121 (yR lI),bU 120 (yR iA),bU 122 (yR kA)]) (elist_cons (bG CV) (elist_cons (bG CU) (elist_cons (bG KS) aH))) aL (by kernel_rfl) Tryz.func131 Tryz.ntmps131 Tryz.results131 rfl rfl hr yQ ?_
 have f0:=bA hr'
 have hcn:=fP (f:=121) (F:=lI) (L:=[bU 120 (yR iA),bU 122 (yR kA)]) (low:=n0) hr' hg hok
 obtain ⟨q1,q2⟩:=iB hok
 have hlf:jB l st0=mL l (fG l st0).1 32 0 [] (fG l st0).2:=rfl
 generalize hx:fG l st0=x at *
 obtain ⟨c,st1⟩:=x
 simp only at q1 q2 hlf
 have hv:lI l st0=(.int .i64 (c:Nat),st1):=by rw [lI,hx]
 rw [hv]at hcn
 simp only at hcn
 simp +contextual +decide (maxSteps:=1000000) only [↓ wP,wQ,ne_eq,hcn]
 refine bE (fun i e=>∃ t n low o v acc st,e=⟨35,none,131,t,[],⟨n,low,o⟩,.no⟩/\t.val 0=.ptr r 0 0/\t.val 3=.int .i64 (c:Nat)/\t.val 4=v/\t.val 5=.int .i64 (i:Nat)/\i<=31/\VAcc n0 n o v acc/\acc.length=i/\mL l c (32-i) i acc st=jB l st0/\dT l st/\n0<=n/\o.get r=some (jR l st)/\r<=low/\∀ id,id<n0->id≠r->o.get id=o0.get id) (fun i=>31-i) 0
  ⟨_,n0,_,_,.nils,[],st1,rfl,by simp +decide only [↓ aB,dJ,cL],by simp +decide only [↓ aB],by simp +decide only [↓ aB],by simp +decide only [↓ aB];rfl,by omega,.inl ⟨rfl,rfl⟩,rfl,hlf.symm,q2,Nat.le_refl _,by rw [Tr.get_set_same],le_min (Nat.le_refl r) (by omega),fun id h1 h2=>by rw [Tr.get_set_ne _ _ h2]⟩ ?_
 rintro i _ ⟨t,n,low,o,v,acc,⟨at_,uQ⟩,rfl,t0,t3,t4,t5,hi,hacc,hal,hgo,hst,hn,hgr,hlow,hoth⟩
 have hrn:r<n:=by omega
 have f1:=bA hrn
 have hgr':=hgr
 unfold jR at hgr
 simp only at hgr
 have hgo1:jB l st0=if i<c/\i<=30/\uQ=false then mL l c (32-(i+1)) (i+1) (acc++[((((eN l (at_,uQ)).1:Nat):Int),(eJ l (eN l (at_,uQ)).2).1)]) (eJ l (eN l (at_,uQ)).2).2 else (acc,at_,uQ):=by
  rw [<-hgo,show 32-i=(32-(i+1))+1 by omega];rfl
 have d1:((i:Int)<(c:Nat))=(i<c):=propext (by omega)
 have d2:((i:Int)<=30)=(i<=30):=propext (by omega)
 have hstop:¬ (i<c/\i<=30/\uQ=false)->BP ⟨n0,low0,o0⟩ r (jR l (dX l st0).2) (dX l st0).1 ⟨n,low,o⟩ v:=fun h=>by
  rw [if_neg h]at hgo1
  have e6:dX l st0=(bO acc,at_,uQ):=by rw [dX,hgo1]
  rw [e6]
  exact rF hr' hn hlow hgr' hoth hacc.frz
 by_cases c1:i<c
 rotate_left
 ·simp +contextual +decide (maxSteps:=1000000) only [↓ wP,wQ,ne_eq,t3,t4,t5,d1,c1]
  exact hstop (fun h=>c1 h.1)
 by_cases c2:i<=30
 rotate_left
 ·simp +contextual +decide (maxSteps:=1000000) only [↓ wP,wQ,ne_eq,t3,t4,t5,d1,c1,d2,c2]
  exact hstop (fun h=>c2 h.2.1)
 cases uQ with
 | true=>
   simp +contextual +decide (maxSteps:=1000000) only [↓ wP,wQ,tf,Nat.reduceAdd,ne_eq,t0,t3,t4,t5,d1,c1,d2,c2,f1,hgr]
   exact hstop (fun h=>by cases h.2.2)
 | false=>
   rw [if_pos ⟨c1,c2,rfl⟩]at hgo1
   have d5:=aJ (i:=i) (by omega)
   have hc1:=fP (f:=120) (F:=iA) (L:=[bU 122 (yR kA)]) (low:=low) hrn hgr' hst
   obtain ⟨p1,p2⟩:=sM hst
   generalize hy:eN l (at_,false)=y at *
   obtain ⟨k,st2⟩:=y
   simp only at p1 p2 hgo1
   have hv1:iA l (at_,false)=(.int .i64 (k:Nat),st2):=by rw [iA,hy]
   rw [hv1]at hc1
   simp only at hc1
   have hc2:=fP (f:=122) (F:=kA) (L:=[]) (low:=Nat.min r low) (o:=o.set r (jR l st2)) hrn (by rw [Tr.get_set_same]) p2
   have p3:=nX p2
   generalize hz:eJ l st2=z at *
   obtain ⟨m,st3⟩:=z
   simp only at p3 hgo1
   have hv2:kA l st2=(.int .i64 m,st3):=by rw [kA,hz]
   rw [hv2]at hc2
   simp only at hc2
   have ne1:orcL [bU 121 (yR lI),bU 120 (yR iA),bU 122 (yR kA)] 120 [.ptr r 0 0] ⟨n,low,o⟩=some (.ret (.int .i64 (k:Nat)) (some ⟨n,Nat.min r low,o.set r (jR l st2)⟩)):=by rw [aT (by decide)];exact hc1
   have ne2:orcL [bU 121 (yR lI),bU 120 (yR iA),bU 122 (yR kA)] 122 [.ptr r 0 0] ⟨n,Nat.min r low,o.set r (jR l st2)⟩=some (.ret (.int .i64 m) (some ⟨n,Nat.min r (Nat.min r low),(o.set r (jR l st2)).set r (jR l st3)⟩)):=by rw [aT (by decide),aT (by decide)];exact hc2
   have hsmall:(2*(acc.length+1)+1024)*16<=281474976710656/\acc.length+1<4611686018427387904:=⟨by omega,by omega⟩
   have hlow2:r<=Nat.min r (Nat.min r low):=le_min (Nat.le_refl r) (le_min (Nat.le_refl r) hlow)
   rcases hacc with ⟨hL,rfl⟩ | ⟨hL,id,g,rfl,hid,hid0,hidn⟩
   ·simp +contextual +decide (maxSteps:=1000000) only [↓ wP,wQ,tf,Nat.reduceAdd,ne_eq,t0,t3,t4,t5,d1,c1,d2,c2,d5,f1,hgr,ne1,ne2,cS,Nat.reduceMul,Nat.mul_one,Nat.zero_mul,Nat.zero_add]
    refine ⟨i+1,by show _-_<_-_;omega,_,n+1+1,_,_,.sl (n+1) 0 0 1 (.room 2),acc++[(((k:Nat):Int),m)],st3,rfl,by simp +decide only [↓ aB,t0],by simp +decide only [↓ aB,t3],by simp +decide only [↓ aB],by simp +decide only [↓ aB],by omega,.inr ⟨by simp,n+1,0,?_,?_,by omega,by omega⟩,by rw [List.length_append,hal];rfl,hgo1.symm,p3,by omega,?_,?_,?_⟩
    ·rw [List.length_append,hL];rfl
    ·rw [hL,Tr.get_set_same];rfl
    ·simp +decide only [↓ aB,f1,ne_eq]
    ·exact hlow2
    ·intro id h1 h2
     have f5:=bA (show id<n by omega)
     simp +decide only [↓ aB,f5,h2,ne_eq]
     exact hoth id h1 h2
   ·have f3:=bA hidn
    have f4:id≠r/\r≠id:=⟨by omega,by omega⟩
    have hfl:(acc.map yM).flatten.length=acc.length*2:=by rw [eY _ (tT _),List.length_map]
    simp +contextual +decide (maxSteps:=1000000) only [↓ wP,wQ,tf,Nat.reduceAdd,ne_eq,t0,t3,t4,t5,d1,c1,d2,c2,d5,f1,f3,f4,hid,hgr,ne1,ne2,cS,hsmall,hfl,Nat.reduceMul,Nat.zero_mul,Nat.zero_add]
    refine ⟨i+1,by show _-_<_-_;omega,_,n+1,_,_,.sl id (g+1) 0 (acc.length+1) (.room 2),acc++[(((k:Nat):Int),m)],st3,rfl,by simp +decide only [↓ aB,t0],by simp +decide only [↓ aB,t3],by simp +decide only [↓ aB],by simp +decide only [↓ aB],by omega,.inr ⟨by simp,id,g+1,?_,?_,hid0,by omega⟩,by rw [List.length_append,hal];rfl,hgo1.symm,p3,by omega,?_,?_,?_⟩
    ·rw [List.length_append];rfl
    ·simp +decide only [↓ aB]
     rw [List.map_append,List.flatten_append];rfl
    ·simp +decide only [↓ aB,f1,f4,ne_eq]
    ·exact le_min (by omega) hlow2
    ·intro id' h1 h2
     have f5:=bA (show id'<n by omega)
     have f6:id'≠id:=by omega
     simp +decide only [↓ aB,f5,f6,h2,ne_eq]
     exact hoth id' h1 h2
end
end Go.Proofs.YtajngkkihadgfaaGreat
/-
 The reference of images: its reader reads objects.
-/
namespace Go.Proofs.YtajngkkihadgfaaGreat
open Go.Abs Go Go.Abs.TryzF
noncomputable section
set_option maxRecDepth 10000
def QZ (l:List Nat) (st:Nat × Bool):Fr × Nat × Bool:=(⟨((fG l st).1:Nat),(jB l (fG l st).2).1,(jB l (jB l (fG l st).2).2).1⟩,(jB l (jB l (fG l st).2).2).2)
def qB (l:List Nat) (n:Nat):Nat->Nat->List Fr->Nat × Bool->List Fr × Nat × Bool
 | 0,_,acc,st=>(acc,st)
 | k+1,i,acc,st=>if i<n/\i<=40/\st.2=false then qB l n k (i+1) (acc++[(QZ l st).1]) (QZ l st).2 else (acc,st)
def KO (l:List Nat) (st:Nat × Bool):List Fr × Nat × Bool:=qB l (fG l st).1 42 0 [] (fG l st).2
def pS (l:List Nat) (st:Nat × Bool):Ob × Nat × Bool:=
 (⟨((eN l st).1:Nat),(eJ l (eN l st).2).1,(jB l (eJ l (eN l st).2).2).1,(KO l (jB l (eJ l (eN l st).2).2).2).1⟩,(KO l (jB l (eJ l (eN l st).2).2).2).2)
def SS (f:Fr):List AV:=[.int .i64 f.node,bO f.env,bO f.vals]
def iR (l:List Fr):AV:=if l=[] then .nils else .fz ((l.map SS).map .agg) false
def pT (o:Ob):AV:=.agg [.int .i64 o.form,.int .i64 o.n,bO o.vals,iR o.frs]
def ST (l:List Nat) (st:Nat × Bool):AV × Nat × Bool:=(pT (pS l st).1,(pS l st).2)
theorem kV {l:List eZ} (h:l.length<=9223372036854775807):bR (bO l)=some l:=by
 refine SV ⟨?_,by simpa using h⟩
 unfold bO
 by_cases h0:l=[]
 ·subst h0;exact .inl ⟨by simp,rfl⟩
 ·rw [if_neg h0];exact .inr ⟨false,rfl⟩
theorem aY {l:List eZ}:(bO l).isCell=true:=by unfold bO;split<;>rfl
theorem valsA_under {n:Nat} {l:List eZ}:UnderE n (bO l):=by
 unfold bO
 split
 ·exact ⟨1,rfl⟩
 ·refine oR fun x hx=>?_
  obtain ⟨y,_,rfl⟩:=List.mem_map.1 hx
  exact ⟨2,rfl⟩
theorem KP (l:List Fr):∀ x∈l.map SS,x.length=3:=fun x hx=>by obtain ⟨y,_,rfl⟩:=List.mem_map.1 hx;rfl
def FAcc (n0 n:Nat) (o:Tr AObj) (v:AV) (l:List Fr):Prop:=(l=[]/\v=.nils)∨(l≠[]/\∃ id g,v=.sl id g 0 l.length (.room 3)/\o.get id=some (aU g (l.map SS).flatten)/\n0<=id/\id<n)
theorem FAcc.frz {n0 n low:Nat} {o:Tr AObj} {v:AV} {l:List Fr} (h:FAcc n0 n o v l):Frz ⟨n,low,o⟩ n0 v (iR l):=by
 rcases h with ⟨rfl,rfl⟩ | ⟨hl,id,g,rfl,hid,h1,h2⟩
 ·exact .und _ dR
 ·rw [iR,if_neg hl]
  refine KW (g:=g) (k:=3) h1 (by rw [Sto.get_mk h2];exact hid) (by simp) (KP _) fun x hx y hy=>?_
  obtain ⟨z,_,rfl⟩:=List.mem_map.1 hx
  simp only [SS,List.mem_cons,List.not_mem_nil,or_false]at hy
  rcases hy with rfl | rfl | rfl
  ·exact aO
  ·exact valsA_under.und
  ·exact valsA_under.und
theorem aLs {l:List Nat} {st:Nat × Bool} (h:dT l st):dT l (QZ l st).2:=rE (rE (iB h).2)
theorem OQ {l:List Nat} {n:Nat}:∀ (k i:Nat) (acc:List Fr) (st:Nat × Bool),dT l st->dT l (qB l n k i acc st).2
 | 0,_,_,_,h=>h
 | k+1,i,acc,st,h=>by
   unfold qB
   split
   ·exact OQ k _ _ _ (aLs h)
   ·exact h
theorem aHw {l:List Nat} {st:Nat × Bool} (h:dT l st):dT l (KO l st).2:=OQ _ _ _ _ (iB h).2
theorem aDk {l:List Nat} {st:Nat × Bool} (h:dT l st):dT l (pS l st).2:=aHw (rE (nX (sM h).2))
abbrev L99:List iW:=[bU 120 (yR iA),bU 122 (yR kA),bU 131 (yR dX),bU 121 (yR lI)]
theorem aLt:∀ x∈L99,gB Tryz.prog x:=elist_cons (bG CU) (elist_cons (bG KS) (elist_cons (bG YT) (elist_cons (bG CV) aH)))
section
variable {n low r:Nat} {o:Tr AObj} {l:List Nat} {st:Nat × Bool}
theorem aHx (hr:r<n) (hg:o.get r=some (jR l st)) (hok:dT l st):orcL L99 120 [.ptr r 0 0] ⟨n,low,o⟩=some (.ret (iA l st).1 (some ⟨n,Nat.min r low,o.set r (jR l (iA l st).2)⟩)):=fP hr hg hok
theorem aHy (hr:r<n) (hg:o.get r=some (jR l st)) (hok:dT l st):orcL L99 122 [.ptr r 0 0] ⟨n,low,o⟩=some (.ret (kA l st).1 (some ⟨n,Nat.min r low,o.set r (jR l (kA l st).2)⟩)):=by rw [aT (by decide)];exact fP hr hg hok
theorem EU (hr:r<n) (hg:o.get r=some (jR l st)) (hok:dT l st):orcL L99 131 [.ptr r 0 0] ⟨n,low,o⟩=some (.ret (dX l st).1 (some ⟨n,Nat.min r low,o.set r (jR l (dX l st).2)⟩)):=by rw [aT (by decide),aT (by decide)];exact fP hr hg hok
theorem VX (hr:r<n) (hg:o.get r=some (jR l st)) (hok:dT l st):orcL L99 121 [.ptr r 0 0] ⟨n,low,o⟩=some (.ret (lI l st).1 (some ⟨n,Nat.min r low,o.set r (jR l (lI l st).2)⟩)):=by rw [aT (by decide),aT (by decide),aT (by decide)];exact fP hr hg hok
end
set_option maxHeartbeats 4000000 in
theorem aDl:∀ args s res,yR ST args s res->eF Tryz.prog 99 args s res:=by
 rintro args ⟨n0,low0,o0⟩ res ⟨r,l,st0,rfl,hr,hg,hok,rfl⟩
 have hr':r<n0:=hr
 rw [Sto.get_mk hr']at hg
 refine pH (L:=L99) aLt aL (by kernel_rfl) Tryz.func99 Tryz.ntmps99 Tryz.results99 rfl rfl hr yQ ?_
 have f0:=bA hr'
 have w1:=(sM hok).2
 have w2:=nX w1
 have w3:=rE w2
 have w4:=(iB w3).2
 have c1:=fun (o:Tr AObj) (n low:Nat) (h1:r<n) (h2:o.get r=some (jR l st0))=>aHx (low:=low) h1 h2 hok
 have c2:=fun (o:Tr AObj) (n low:Nat) (h1:r<n) (h2:o.get r=some (jR l (iA l st0).2))=>aHy (low:=low) h1 h2 w1
 have c3:=fun (o:Tr AObj) (n low:Nat) (h1:r<n) (h2:o.get r=some (jR l (kA l (iA l st0).2).2))=>EU (low:=low) h1 h2 w2
 have c4:=fun (o:Tr AObj) (n low:Nat) (h1:r<n) (h2:o.get r=some (jR l (dX l (kA l (iA l st0).2).2).2))=>VX (low:=low) h1 h2 w3
 have v1:(iA l st0).1=.int .i64 ((eN l st0).1:Nat):=rfl
 have v2:(kA l (iA l st0).2).1=.int .i64 (eJ l (eN l st0).2).1:=rfl
 have v3:(dX l (kA l (iA l st0).2).2).1=bO (jB l (eJ l (eN l st0).2).2).1:=rfl
 have v4:(lI l (dX l (kA l (iA l st0).2).2).2).1=.int .i64 ((fG l (jB l (eJ l (eN l st0).2).2).2).1:Nat):=rfl
 simp +contextual +decide (maxSteps:=1000000) only [↓ wP,wQ,tf,Nat.reduceAdd,ne_eq,c1,c2,c3,c4,v1,v2,v3,v4,f0,cS,hg,aY]
 have hfsF:KO l (dX l (kA l (iA l st0).2).2).2=qB l (fG l (dX l (kA l (iA l st0).2).2).2).1 42 0 [] (lI l (dX l (kA l (iA l st0).2).2).2).2:=rfl
 have hob:ST l st0=(.agg [.int .i64 ((eN l st0).1:Nat),.int .i64 (eJ l (eN l st0).2).1,bO (jB l (eJ l (eN l st0).2).2).1,iR (KO l (dX l (kA l (iA l st0).2).2).2).1],(KO l (dX l (kA l (iA l st0).2).2).2).2):=rfl
 have hw3:(jB l (eJ l (eN l st0).2).2).2=(dX l (kA l (iA l st0).2).2).2:=rfl
 rw [hob]
 simp only [hw3]
 have w4':dT l (lI l (dX l (kA l (iA l st0).2).2).2).2:=w4
 have hnl:=(iB w3).1
 have hnl':(fG l (dX l (kA l (iA l st0).2).2).2).1<34359738368:=hnl
 generalize (lI l (dX l (kA l (iA l st0).2).2).2).2=st4 at *
 generalize hcn:(fG l (dX l (kA l (iA l st0).2).2).2).1=c at *
 generalize KO l (dX l (kA l (iA l st0).2).2).2=FF at *
 generalize (eN l st0).1=form at *
 generalize (eJ l (eN l st0).2).1=nn at *
 generalize (jB l (eJ l (eN l st0).2).2).1=vls at *
 generalize (iA l st0).2=s1 at *
 generalize (kA l s1).2=s2 at *
 generalize (dX l s2).2=s3 at *
 clear c1 c2 c3 c4 v1 v2 v3 v4 w1 w2 w3 w4 hob hw3
 refine bE (fun i e=>∃ t n low o fv acc st,e=⟨49,none,99,t,[],⟨n,low,o⟩,.no⟩/\t.val 0=.ptr r 0 0/\t.val 2=.ptr n0 0 0/\t.val 3=.ptr (n0+1) 0 0/\t.val 4=.int .i64 (c:Nat)/\t.val 5=.int .i64 (i:Nat)/\i<=41/\acc.length=i/\FAcc (n0+1+1) n o fv acc/\qB l c (42-i) i acc st=FF/\dT l st/\n0+1+1<=n/\o.get r=some (jR l st)/\o.get n0=some (aU 0 [.int .i64 0,.int .i64 0,.nils,.nils])/\o.get (n0+1)=some (aU 0 [.int .i64 (form:Nat),.int .i64 nn,bO vls,fv])/\r<=low/\∀ id,id<n0->id≠r->o.get id=o0.get id) (fun i=>41-i) 0
  ⟨_,n0+1+1,_,_,.nils,[],st4,rfl,by simp +decide only [↓ aB,dJ,cL],by simp +decide only [↓ aB],by simp +decide only [↓ aB],by simp +decide only [↓ aB],by simp +decide only [↓ aB];rfl,by omega,rfl,.inl ⟨rfl,rfl⟩,hfsF.symm,w4',Nat.le_refl _,by simp +decide only [↓ aB],by simp +decide only [↓ aB,cL,ne_eq,f0,cS],by simp +decide only [↓ aB,cL,ne_eq,f0],?_,fun id h1 h2=>?_⟩ ?_
 ·repeat' first | exact Nat.le_refl _ | apply le_min | omega
 ·have f5:=bA h1
  simp +contextual +decide (maxSteps:=1000000) only [↓ wP,wQ,ne_eq,f5,h2]
 rintro i _ ⟨t,n,low,o,fv,acc,⟨at_,uQ⟩,rfl,t0,t2,t3,t4,t5,hi,hal,hacc,hgo,hst,hn,hgr,hg0,hg1,hlow,hoth⟩
 have hrn:r<n:=by omega
 have f1:=bA hrn
 have f2:=bA (show n0<n by omega)
 have f3:=bA (show n0+1<n by omega)
 have hgr':=hgr
 unfold jR at hgr
 simp only at hgr
 have hgo1:FF=if i<c/\i<=40/\uQ=false then qB l c (42-(i+1)) (i+1) (acc++[(QZ l (at_,uQ)).1]) (QZ l (at_,uQ)).2 else (acc,at_,uQ):=by
  rw [<-hgo,show 42-i=(42-(i+1))+1 by omega];rfl
 have d1:((i:Int)<(c:Nat))=(i<c):=propext (by omega)
 have d2:((i:Int)<=40)=(i<=40):=propext (by omega)
 have hne:n0≠r/\r≠n0/\n0+1≠r/\r≠n0+1/\n0≠n0+1/\n0+1≠n0:=⟨by omega,by omega,by omega,by omega,by omega,by omega⟩
 have hstop:¬ (i<c/\i<=40/\uQ=false)->BP ⟨n0,low0,o0⟩ r (jR l FF.2) (.agg [.int .i64 (form:Nat),.int .i64 nn,bO vls,iR FF.1]) ⟨n,Nat.min n0 low,o.set n0 (aU 0 [.int .i64 (form:Nat),.int .i64 nn,bO vls,fv])⟩ (.agg [.int .i64 (form:Nat),.int .i64 nn,bO vls,fv]):=fun h=>by
  rw [if_neg h]at hgo1
  rw [hgo1]
  refine rF hr' (by omega) (le_min (by omega) hlow) (by rw [Tr.get_set_ne _ _ hne.2.1];exact hgr') (fun id h1 h2=>by rw [Tr.get_set_ne _ _ (by omega)];exact hoth id h1 h2) ?_
  refine .agg _ _ rfl (bI (.und _ aO) (bI (.und _ aO) (bI (.und _ valsA_under.und) (bI ?_ fR))))
  refine FAcc.frz ?_
  rcases hacc with h | ⟨h1,id,g,h2,h3,h4,h5⟩
  ·exact .inl h
  ·exact .inr ⟨h1,id,g,h2,by rw [Tr.get_set_ne _ _ (by omega)];exact h3,by omega,h5⟩
 have hfvc:fv.isCell=true:=by
  rcases hacc with ⟨_,rfl⟩ | ⟨_,_,_,rfl,_⟩<;>rfl
 by_cases k1:i<c
 rotate_left
 ·simp +contextual +decide (maxSteps:=1000000) only [↓ wP,wQ,tf,Nat.reduceAdd,ne_eq,t2,t3,t4,t5,d1,k1,f2,f3,hg0,hg1,aY,hfvc,aF,Option.bind_some]
  exact hstop (fun h=>k1 h.1)
 by_cases k2:i<=40
 rotate_left
 ·simp +contextual +decide (maxSteps:=1000000) only [↓ wP,wQ,tf,Nat.reduceAdd,ne_eq,t2,t3,t4,t5,d1,k1,d2,k2,f2,f3,hg0,hg1,aY,hfvc,aF,Option.bind_some]
  exact hstop (fun h=>k2 h.2.1)
 cases uQ with
 | true=>
   simp +contextual +decide (maxSteps:=1000000) only [↓ wP,wQ,tf,Nat.reduceAdd,ne_eq,t0,t2,t3,t4,t5,d1,k1,d2,k2,f1,f2,f3,hgr,hg0,hg1,aY,hfvc,aF,Option.bind_some]
   exact hstop (fun h=>by cases h.2.2)
 | false=>
   rw [if_pos ⟨k1,k2,rfl⟩]at hgo1
   have d5:=aJ (i:=i) (by omega)
   have u1:=(iB hst).2
   have u2:=rE u1
   have u3:=rE u2
   have b1:=fun (o:Tr AObj) (n low:Nat) (h1:r<n) (h2:o.get r=some (jR l (at_,false)))=>VX (low:=low) h1 h2 hst
   have b2:=fun (o:Tr AObj) (n low:Nat) (h1:r<n) (h2:o.get r=some (jR l (lI l (at_,false)).2))=>EU (low:=low) h1 h2 u1
   have b3:=fun (o:Tr AObj) (n low:Nat) (h1:r<n) (h2:o.get r=some (jR l (dX l (lI l (at_,false)).2).2))=>EU (low:=low) h1 h2 u2
   have v1:(lI l (at_,false)).1=.int .i64 ((QZ l (at_,false)).1.node):=rfl
   have v2:(dX l (lI l (at_,false)).2).1=bO (QZ l (at_,false)).1.env:=rfl
   have v3:(dX l (dX l (lI l (at_,false)).2).2).1=bO (QZ l (at_,false)).1.vals:=rfl
   have v4:(dX l (dX l (lI l (at_,false)).2).2).2=(QZ l (at_,false)).2:=rfl
   have u3':dT l (QZ l (at_,false)).2:=u3
   have ld2:HD (some none) (some (jR l (at_,false))) 0 2=some (.bool false):=rfl
   have hsmall:(2*(acc.length+1)+1024)*56<=281474976710656/\acc.length+1<4611686018427387904:=⟨by omega,by omega⟩
   generalize hff:QZ l (at_,false)=ff at *
   obtain ⟨f,st'⟩:=ff
   simp only at hgo1 v1 v2 v3 v4 u3'
   rcases hacc with ⟨hL,rfl⟩ | ⟨hL,id,g,rfl,hid,hid0,hidn⟩
   ·simp +contextual +decide (maxSteps:=1000000) only [↓ wP,wQ,tf,Nat.reduceAdd,ne_eq,t0,t3,t4,t5,d1,k1,d2,k2,d5,f1,f3,cS,hne,hgr',ld2,hg1,b1,b2,b3,v1,v2,v3,v4,aY,Nat.reduceMul,Nat.mul_one,Nat.zero_mul,Nat.zero_add]
    refine ⟨i+1,by show _-_<_-_;omega,_,n+1+1+1,_,_,.sl (n+1+1) 0 0 1 (.room 3),acc++[f],st',rfl,by simp +decide only [↓ aB,t0],by simp +decide only [↓ aB,t2],by simp +decide only [↓ aB,t3],by simp +decide only [↓ aB,t4],by simp +decide only [↓ aB],by omega,by rw [List.length_append,hal];rfl,.inr ⟨by simp,n+1+1,0,?_,?_,by omega,by omega⟩,hgo1.symm,u3',by omega,?_,?_,?_,?_,?_⟩
    ·rw [List.length_append,hL];rfl
    ·simp +decide only [↓ aB,f3,ne_eq]
     rw [hL];rfl
    ·simp +decide only [↓ aB,f1,hne,ne_eq]
    ·simp +decide only [↓ aB,f2,hne,hg0,ne_eq]
    ·simp +decide only [↓ aB]
    ·repeat' first | exact Nat.le_refl _ | apply le_min | omega
    ·intro id' h1 h2
     have g5:=bA (show id'<n by omega)
     have g6:id'≠n0/\id'≠n0+1:=⟨by omega,by omega⟩
     simp +decide only [↓ aB,g5,g6,h2,ne_eq]
     exact hoth id' h1 h2
   ·have f4:=bA hidn
    have f6:id≠r/\r≠id/\id≠n0/\n0≠id/\id≠n0+1/\n0+1≠id:=⟨by omega,by omega,by omega,by omega,by omega,by omega⟩
    have hfl:(acc.map SS).flatten.length=acc.length*3:=by rw [eY _ (KP _),List.length_map]
    simp +contextual +decide (maxSteps:=1000000) only [↓ wP,wQ,tf,Nat.reduceAdd,ne_eq,t0,t3,t4,t5,d1,k1,d2,k2,d5,f1,f3,f4,f6,hid,hfl,cS,hne,hgr',ld2,hg1,b1,b2,b3,v1,v2,v3,v4,aY,hsmall,Nat.reduceMul,Nat.zero_mul,Nat.zero_add]
    refine ⟨i+1,by show _-_<_-_;omega,_,n+1+1,_,_,.sl id (g+1) 0 (acc.length+1) (.room 3),acc++[f],st',rfl,by simp +decide only [↓ aB,t0],by simp +decide only [↓ aB,t2],by simp +decide only [↓ aB,t3],by simp +decide only [↓ aB,t4],by simp +decide only [↓ aB],by omega,by rw [List.length_append,hal];rfl,.inr ⟨by simp,id,g+1,?_,?_,hid0,by omega⟩,hgo1.symm,u3',by omega,?_,?_,?_,?_,?_⟩
    ·rw [List.length_append];rfl
    ·simp +decide only [↓ aB,f6,ne_eq]
     rw [List.map_append,List.flatten_append];rfl
    ·simp +decide only [↓ aB,f1,hne,f6,ne_eq]
    ·simp +decide only [↓ aB,f2,hne,f6,hg0,ne_eq]
    ·simp +decide only [↓ aB]
    ·repeat' first | exact Nat.le_refl _ | apply le_min | omega
    ·intro id' h1 h2
     have g5:=bA (show id'<n by omega)
     have g6:id'≠n0/\id'≠n0+1/\id'≠id:=⟨by omega,by omega,by omega⟩
     simp +decide only [↓ aB,g5,g6,h2,ne_eq]
     exact hoth id' h1 h2
end
end Go.Proofs.YtajngkkihadgfaaGreat
/-
 The reference of images: the object of bytes.
-/
namespace Go.Proofs.YtajngkkihadgfaaGreat
open Go.Abs Go Go.Abs.TryzF
noncomputable section
set_option maxRecDepth 10000
theorem EV {l:List Nat} {n:Nat}:∀ (k i:Nat) (acc:List eZ) (st:Nat × Bool),(mL l n k i acc st).1.length<=acc.length+k
 | 0,_,_,_=>Nat.le_refl _
 | k+1,i,acc,st=>by
   unfold mL
   split
   ·refine Nat.le_trans (EV k _ _ _) ?_
    rw [List.length_append,List.length_singleton];omega
   ·show acc.length<=_;omega
theorem AP {l:List Nat} {st:Nat × Bool}:(jB l st).1.length<=32:=by
 have:=EV (l:=l) (n:=(fG l st).1) 32 0 [] (fG l st).2
 rw [List.length_nil,Nat.zero_add]at this;exact this
def JA (f:Fr):Prop:=f.env.length<=32/\f.vals.length<=32
theorem aHz {l:List Nat} {st:Nat × Bool}:JA (QZ l st).1:=⟨AP,AP⟩
theorem JB {l:List Nat} {n:Nat}:∀ (k i:Nat) (acc:List Fr) (st:Nat × Bool),(∀ f∈acc,JA f)->(qB l n k i acc st).1.length<=acc.length+k/\∀ f∈(qB l n k i acc st).1,JA f
 | 0,_,_,_,h=>⟨Nat.le_refl _,h⟩
 | k+1,i,acc,st,h=>by
   unfold qB
   split
   ·have:=JB (l:=l) (n:=n) k (i+1) (acc++[(QZ l st).1]) (QZ l st).2 (fun f hf=>by
     rcases List.mem_append.1 hf with hf | hf
     ·exact h f hf
     ·rw [List.mem_singleton]at hf;subst hf;exact aHz)
    refine ⟨Nat.le_trans this.1 (by rw [List.length_append,List.length_singleton];omega),this.2⟩
   ·exact ⟨show acc.length<=_ by omega,h⟩
theorem vC {α:Type} {f:AV->Option α} {g:α->AV}:∀ l:List α,(∀ x∈l,f (g x)=some x)->CJ f (l.map g)=some l
 | [],_=>rfl
 | x::l,h=>by simp only [List.map_cons,CJ,h x (List.mem_cons_self ..),vC l fun y hy=>h y (List.mem_cons_of_mem _ hy)]
theorem aIa {f:Fr} (h:JA f):tZ (.agg (SS f))=some f:=by
 have h1:=kV (l:=f.env) (by have:=h.1;omega)
 have h2:=kV (l:=f.vals) (by have:=h.2;omega)
 show (match bR (bO f.env),bR (bO f.vals) with
  | some e,some v=>some (Fr.mk f.node e v)
  | _,_=>none)=_
 rw [h1,h2]
theorem aDm {l:List Fr} (h:∀ f∈l,JA f) (hl:l.length<=9223372036854775807):nO (iR l)=some l:=by
 unfold iR
 by_cases h0:l=[]
 ·subst h0;rfl
 ·rw [if_neg h0]
  show (if _ then _ else _)=_
  rw [if_pos (by simpa using hl),List.map_map]
  exact vC (g:=fun f=>.agg (SS f)) l fun f hf=>aIa (h f hf)
theorem aIb {o:Ob} (h1:o.vals.length<=32) (h2:o.frs.length<=42) (h3:∀ f∈o.frs,JA f):dQ (pT o)=some o:=by
 show (match bR (bO o.vals),nO (iR o.frs) with
  | some v,some f=>some (Ob.mk o.form o.n v f)
  | _,_=>none)=_
 rw [kV (by omega),aDm h3 (by omega)]
theorem yN (l:List Nat) (st:Nat × Bool):dQ (pT (pS l st).1)=some (pS l st).1:=by
 have h:=JB (l:=l) (n:=(fG l (jB l (eJ l (eN l st).2).2).2).1) 42 0 [] (fG l (jB l (eJ l (eN l st).2).2).2).2 (fun f hf=>nomatch hf)
 have h1:=h.1
 rw [List.length_nil,Nat.zero_add]at h1
 exact aIb AP h1 h.2
theorem dG {l:List Fr}:(iR l).isCell=true:=by unfold iR;split<;>rfl
theorem frsA_under {n:Nat} {l:List Fr}:UnderE n (iR l):=by
 unfold iR
 split
 ·exact ⟨1,rfl⟩
 ·refine oR fun x hx=>?_
  rw [List.map_map]at hx
  obtain ⟨y,_,rfl⟩:=List.mem_map.1 hx
  refine fI fun z hz=>?_
  simp only [SS,List.mem_cons,List.not_mem_nil,or_false]at hz
  rcases hz with rfl | rfl | rfl
  ·exact ⟨1,rfl⟩
  ·exact valsA_under
  ·exact valsA_under
theorem obA_under {n:Nat} {o:Ob}:UnderE n (pT o):=fI fun x hx=>by
 simp only [List.mem_cons,List.not_mem_nil,or_false]at hx
 rcases hx with rfl | rfl | rfl | rfl
 ·exact ⟨1,rfl⟩
 ·exact ⟨1,rfl⟩
 ·exact valsA_under
 ·exact frsA_under
def hS (s:List Nat):Option Ob:=if (pS s (0,false)).2.2=false/\fY (pS s (0,false)).1=true/\nG (pS s (0,false)).1=s then some (pS s (0,false)).1 else none
def pE:Ob:=⟨0,0,[],[]⟩
theorem EW:pT pE=.agg [.int .i64 0,.int .i64 0,.nils,.nils]:=rfl
def tU (s:List Nat):AV:=match hS s with
 | some o=>.tuple [pT o,.bool true]
 | none=>.tuple [pT pE,.bool false]
def EX (s:List Nat):AV:=match hS s with
 | some o=>.tuple [pT o,.int .i64 0]
 | none=>.tuple [pT pE,.int .i64 4]
theorem KQ {o:Ob} {v:AV} (h:Und 0 v):Und 0 (.tuple [pT o,v]):=cD (aC obA_under.und (aC h aE))
theorem YU {s:List Nat}:Und 0 (tU s):=by unfold tU;split<;>exact KQ cA
abbrev aLu:={x:List Nat // By x/\x.length<4611686018427387904}
theorem aDn {V:List Nat->AV}:∀ i j:aLu,[AV.str i.1]=[AV.str j.1]->V i.1=V j.1:=by
 rintro ⟨a,_⟩ ⟨b,_⟩ h
 simp at h;subst h;rfl
abbrev L43:List iW:=[bU 99 (yR ST),ent 38 iT,ent 39 xI]
set_option maxHeartbeats 1000000 in
theorem YV (s:List Nat) (hb:By s) (hl:s.length<4611686018427387904):Abs.Returns Tryz.prog 43 [.str s] (tU s):=by
 refine aR (L:=L43) (elist_cons (bG aDl) (elist_cons rstorable_ok.ent (elist_cons rwrite_ok.ent aH))) aL (by kernel_rfl) Tryz.func43 Tryz.ntmps43 Tryz.results43 rfl rfl (aC cC aE) YU ?_
 have hok:dT s (0,false):=⟨hb,hl,Nat.zero_le _⟩
 have c1:=fun (o:Tr AObj) (n low r:Nat) (h1:r<n) (h2:o.get r=some (aU 0 [.str s,.int .i64 0,.bool false]))=>(fP (f:=99) (F:=ST) (L:=[ent 38 iT,ent 39 xI]) (low:=low) h1 h2 hok:orcL L43 _ _ _=_)
 have v1:(ST s (0,false)).1=.agg [.int .i64 (pS s (0,false)).1.form,.int .i64 (pS s (0,false)).1.n,bO (pS s (0,false)).1.vals,iR (pS s (0,false)).1.frs]:=rfl
 have v2:(ST s (0,false)).2=(pS s (0,false)).2:=rfl
 have hdec:=yN s (0,false)
 have e1:∀ (σ:Sto),orcL L43 38 [.agg [.int .i64 (pS s (0,false)).1.form,.int .i64 (pS s (0,false)).1.n,bO (pS s (0,false)).1.vals,iR (pS s (0,false)).1.frs]] σ=some (.ret (.bool (fY (pS s (0,false)).1)) none):=fun σ=>by
  rw [aT (by decide),ent_same];exact congrArg (Option.map _) (nY hdec)
 have e2:fY (pS s (0,false)).1=true->∀ (σ:Sto),orcL L43 39 [.agg [.int .i64 (pS s (0,false)).1.form,.int .i64 (pS s (0,false)).1.n,bO (pS s (0,false)).1.vals,iR (pS s (0,false)).1.frs]] σ=some (.ret (.str (nG (pS s (0,false)).1)) none):=fun h σ=>by
  rw [aT (by decide),gP (by decide),ent_same];exact congrArg (Option.map _) (JC hdec h)
 have hz:tU s=match hS s with
  | some o=>.tuple [pT o,.bool true]
  | none=>.tuple [pT pE,.bool false]:=rfl
 unfold hS at hz
 generalize pS s (0,false)=x at *
 obtain ⟨⟨form,n,vals,frs⟩,at_,uQ⟩:=x
 simp only at v1 v2 e1 e2 hz
 have ld2:HD (some none) (some (jR s (at_,uQ))) 0 2=some (.bool uQ):=rfl
 cases uQ with
 | true=>
   simp +contextual +decide (maxSteps:=1000000) only [↓ wP,wQ,tf,Nat.reduceAdd,ne_eq,c1,v1,v2,ld2,aY,dG,aF,Option.bind_some]
   rw [hz,if_neg (by simp)];rfl
 | false=>
   cases h1:fY ⟨form,n,vals,frs⟩ with
   | false=>
     simp +contextual +decide (maxSteps:=1000000) only [↓ wP,wQ,tf,Nat.reduceAdd,ne_eq,c1,v1,v2,e1,h1,ld2,aY,dG,aF,Option.bind_some]
     rw [hz,if_neg (by simp [h1])];rfl
   | true=>
     have e2:=e2 h1
     by_cases h2:nG ⟨form,n,vals,frs⟩=s
     ·simp +contextual +decide (maxSteps:=1000000) only [↓ wP,wQ,tf,Nat.reduceAdd,ne_eq,c1,v1,v2,e1,h1,e2,ld2,aY,dG,aF,Option.bind_some,fV,h2]
      rw [hz,if_pos ⟨rfl,h1,h2⟩];rfl
     ·simp +contextual +decide (maxSteps:=1000000) only [↓ wP,wQ,tf,Nat.reduceAdd,ne_eq,c1,v1,v2,e1,h1,e2,ld2,aY,dG,aF,Option.bind_some,fV,h2]
      rw [hz,if_neg (by simp [h2])];rfl
end
end Go.Proofs.YtajngkkihadgfaaGreat
