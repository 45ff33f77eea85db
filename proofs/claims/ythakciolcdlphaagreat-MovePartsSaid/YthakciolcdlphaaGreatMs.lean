/-
  The reference: all objects to which an object refers, put to a list.
-/
import Derived.Test.YthakciolcdlphaaGreatMi
import Derived.Test.YthakciolcdlphaaGreatMp
set_option linter.unusedVariables false
set_option linter.unusedSimpArgs false
namespace Go.Proofs.YthakciolcdlphaaGreat
open Go.Abs Go Go.Abs.TryzF
noncomputable section
set_option maxRecDepth 10000
theorem AccI.app2 {lo n low by_:Nat} {v x:AV} {o:Tr AObj} {R:List AV} (h:AccI lo v n o R) (hR:R.all AV.isCell=true) (hx:x.isCell=true) (hl:lo<=n) (hr:(2*(R.length+1)+1024)*by_<=281474976710656/\R.length+1<4611686018427387904) {q:Nat} (hq:q<n) (hv:∀ id g c,v=.sl id g 0 R.length c->id≠q):
 ∃ v' n' low' o',apF ⟨n,low,o⟩ 1 by_ v (some (1,[x]))=some (.val' v' ⟨n',low',o'⟩)/\AccI lo v' n' o' (R++[x])/\n<=n'/\(∀ id,id<lo->o'.get id=o.get id)/\(lo<=low->lo<=low')/\o'.get q=o.get q/\∀ id g c,v'=.sl id g 0 (R++[x]).length c->id≠q:=by
 have hc2:(R++[x]).all AV.isCell=true:=by rw [List.all_append,hR];simp [hx]
 have hll:(R++[x]).length=R.length+1:=by simp
 rcases h with ⟨rfl,rfl⟩ | ⟨h0,id,g,c,rfl,hc,h2,h3,h4⟩
 ·have:=vA (s:=⟨n,low,o⟩) (k:=1) (by_:=by_) (n:=1) (new:=[x]) (by decide) (by simpa using hr) (by simp [hx])
  exact ⟨_,n+1,low,o.set n (ob [x]),this,.inr ⟨by simp,n,0,.room 1,rfl,.inl rfl,Tr.get_set_same _ _ _,hl,Nat.lt_succ_self _⟩,Nat.le_succ _,fun id hid=>Tr.get_set_ne _ _ (by omega),fun h=>h,Tr.get_set_ne _ _ (by omega),fun id g c e=>by rw [<- (AV.sl.inj e).1];show n≠q;omega⟩
 ·have hidq:=hv _ _ _ rfl
  rcases hc with rfl | rfl
  ·have:=sH (s:=⟨n,low,o⟩) (id:=id) (g:=g) (len:=R.length) (k:=1) (by_:=by_) (n:=1) (cs:=R) (new:=[x]) (by simp) (by simp) hr
   refine ⟨.sl id (g+1) 0 (R.length+1) (.room 1),n,Nat.min id low,o.set id (aU (g+1) (R++[x])),?_,.inr ⟨by simp,id,g+1,.room 1,by simp,.inl rfl,Tr.get_set_same _ _ _,h3,h4⟩,Nat.le_refl _,fun j hj=>Tr.get_set_ne _ _ (by omega),fun h=>Nat.le_min.2 ⟨h3,h⟩,Tr.get_set_ne _ _ (by omega),fun id g c e=>by
    obtain ⟨rfl,_⟩:=AV.sl.inj e;exact hidq⟩
   rw [oD,Sto.get_mk h4,h2,this,Sto.put_any]
  ·have:=zE (s:=⟨n,low,o⟩) (g:=g) (len:=R.length) (k:=1) (by_:=by_) (n:=1) (cs:=R) (new:=[x]) (by simp) hr hR (by simp [hx])
   refine ⟨_,n+1,low,o.set n (ob (R++[x])),?_,.inr ⟨by simp,n,0,.room 1,rfl,.inl rfl,Tr.get_set_same _ _ _,hl,Nat.lt_succ_self _⟩,Nat.le_succ _,fun id hid=>Tr.get_set_ne _ _ (by omega),fun h=>h,Tr.get_set_ne _ _ (by omega),fun id g c e=>by rw [<- (AV.sl.inj e).1];show n≠q;omega⟩
   rw [GF (by omega),Sto.get_mk h4,h2,this,List.length_append];rfl
theorem XI {N:Nat}:∀ (l R:List Nat),R.Nodup->(∀ x∈R,x<N)->(∀ x∈l,x<N)->(l.foldl mF R).length<=N:=fun l R h1 h2 h3=>by
 obtain ⟨h4,h5⟩:=tK l R h1
 have:=kR (bX (l.foldl mF R)) (bX (List.range N)) (List.pairwise_map.2 (h4.imp fun h e=>h (by omega))) fun x hx=>by
  obtain ⟨y,hy,rfl⟩:=List.mem_map.1 hx
  exact List.mem_map.2 ⟨y,List.mem_range.2 (((h5 y).1 hy).elim (h2 y) (h3 y)),rfl⟩
 simpa [bX] using this
def zO (R:List Nat) (vl:List AV) (i:Nat):List Nat:=(fX (vl.take i)).foldl mF R
theorem SO {R:List Nat} {vl:List AV} {i:Nat} {v:AV} (h:vl[i]?=some v):zO R vl (i+1)=if (v.fld 0).num=5 then mF (zO R vl i) (v.fld 1).num.toNat else zO R vl i:=by
 unfold zO
 rw [MD h,List.foldl_append]
 by_cases h5:(v.fld 0).num=5
 ·rw [if_pos h5,if_pos h5];rfl
 ·rw [if_neg h5,if_neg h5];rfl
theorem XJ {R:List Nat} {vl:List AV} {N:Nat} (h1:R.Nodup) (h2:∀ x∈R,x<N) (h3:∀ v∈vl,(v.fld 0).num=5->0<=(v.fld 1).num/\(v.fld 1).num<N) (i:Nat):(zO R vl i).length<=N:=by
 refine XI _ R h1 h2 fun x hx=>?_
 obtain ⟨v,hv,he⟩:=List.mem_filterMap.1 hx
 split at he
 ·cases he
  obtain ⟨q1,q2⟩:=h3 v (List.mem_of_mem_take hv) ‹_›
  omega
 ·cases he
theorem SP {vl:List AV} {i:Nat} {v:AV} (h:vl[i]?=some v) (hc:∀ x∈vl,x.cells.length=2) (j:Nat) (hj:j<2):(vl.map AV.cells).flatten[i*2+j]?=v.cells[j]?:=by
 induction vl generalizing i with
 | nil=>cases h
 | cons x vl ih=>
   have hx:=hc x (List.mem_cons_self ..)
   rw [List.map_cons,List.flatten_cons]
   cases i with
   | zero=>
     simp only [List.getElem?_cons_zero,Option.some.injEq]at h
     subst h
     rw [Nat.zero_mul,Nat.zero_add,List.getElem?_append_left (by omega)]
   | succ i=>
     rw [List.getElem?_append_right (by omega),hx,show (i+1)*2+j-2=i*2+j by omega]
     exact ih (by simpa using h) fun y hy=>hc y (List.mem_cons_of_mem _ hy)
def aLr (n:Nat):cJ:=fun r=>if r=5 then ([],[1000,iD n,16]) else ([],[])
theorem XK {n:Nat}:aLr n 5=([],[1000,iD n,16]):=rfl
def RRef (lo:Nat) (args:List AV) (s:Sto) (res:CRes):Prop:=∃ v R o,args=[v,o]/\AccI lo v s.n s.o (bB R)/\(∃ v' S,res=.ret v' (some S)/\AccI lo v' S.n S.o (bB (zO R (cU o) (cU o).length))/\s.n<=S.n/\(∀ id,id<lo->S.o.get id=s.o.get id)/\(∀ m,m<=lo->m<=s.low->m<=S.low))/\bH Tryz.prog 74 args s res
set_option maxHeartbeats 16000000 in
theorem SQ {lo N:Nat} {s:Sto} {v o:AV} {R:List Nat} (h:AccI lo v s.n s.o (bB R)) (hlo:lo<=s.n) (hN:N<=900) (hnd:R.Nodup) (hRN:∀ x∈R,x<N) (ho:xO o) (href:∀ x∈cU o,(x.fld 0).num=5->0<=(x.fld 1).num/\(x.fld 1).num<N):∃ res,RRef lo [v,o] s res:=by
 obtain ⟨n0,low0,o0⟩:=s
 have hlo':lo<=n0:=hlo
 have hA0:AccI lo v n0 o0 (bB R):=h
 have hcvO:=hA0.cell
 have key:∃ (S:Sto) (v':AV),(AccI lo v' S.n S.o (bB (zO R (cU o) (cU o).length))/\n0<=S.n/\(∀ id,id<lo->S.o.get id=o0.get id)/\lo<=S.low)/\bH Tryz.prog 74 [v,o] ⟨n0,low0,o0⟩ (.ret v' (some {S with low:=Nat.min low0 S.low})):=by
  obtain ⟨hT,hfl,hvl⟩:=ho
  have hput:=fun i=>XJ (vl:=cU o) hnd hRN href i
  have hlsT:=zU hT
  have hTv:∀ v∈cU o,uS v:=nQ hlsT
  have hvO:cU o=bU (nR (o.fld 2) (o.fld 3).els):=rfl
  rw [hvO]at hvl
  unfold lsO at hlsT
  refine rY (L:=[bJ 75 sV]) (elist_cons yX aG) (aLr (n0+1)) (by kernel_rfl) Tryz.func74 Tryz.ntmps74 Tryz.results74 rfl rfl ?_
  obtain ⟨c0,c1,vs,fs,rfl,⟨k0,rfl⟩,⟨k1,rfl⟩,hvs,hfs⟩:=hT
  have hcv:=(tu_vals vs hvs).2
  have hcf:=(fC fs hfs).2
  obtain ⟨fl,hsf,hTf⟩:=hfs
  have e2:(AV.agg [.int .i64 k0,.int .i64 k1,vs,fs]).fld 2=vs:=rfl
  have e3:((AV.agg [.int .i64 k0,.int .i64 k1,vs,fs]).fld 3).els=fl:=hsf.els
  rw [e2,e3]at hvl hlsT hvO
  rw [e3]at hfl
  obtain ⟨xv,hsv,hTxv⟩:=hvs
  have hap:∀ {s:Sto},yV s 2 vs=some (xv.length,(xv.map AV.cells).flatten):=fun {s}=>uF hsv (qO tk_val hTxv)
  have hcat:∀ i,(bU (nR vs (fl.take i))).length<=100000:=fun i=>by
   refine Nat.le_trans ?_ hvl
   have h1:nR vs fl=nR vs (fl.take i)++MF (fl.drop i):=by
    rw [nR,nR,List.cons_append]
    congr 1
    rw [MF,MF,MF,<-List.flatten_append,<-List.map_append,List.take_append_drop]
   rw [h1,bU,bU,List.map_append,List.flatten_append,List.length_append];omega
  have hc0:bU (nR vs (fl.take 0))=xv:=by simp [nR,MF,bU,hsv.els]
  have hrow:∀ i,∀ x∈(bU (nR vs (fl.take i))).map AV.cells,x.length=2:=fun i x hx=>by
   obtain ⟨y,hy,rfl⟩:=List.mem_map.1 hx
   refine tk_val.len (nQ (fun z hz=>hlsT z ?_) y hy)
   rcases List.mem_cons.1 hz with rfl | hz
   ·exact List.mem_cons_self ..
   ·refine List.mem_cons_of_mem _ ?_
    obtain ⟨l,hl,hz⟩:=List.mem_flatten.1 hz
    obtain ⟨f,hf,rfl⟩:=List.mem_map.1 hl
    exact List.mem_flatten.2 ⟨_,List.mem_map.2 ⟨f,List.mem_of_mem_take hf,rfl⟩,hz⟩
  obtain ⟨vv,n,low,ob,⟨hA,hn,hk,hl⟩,hrun⟩:=aDw (k:=2) (lo:=n0+1) (by_:=16) (n:=n0+1) (low:=n0) (o:=o0.set n0 (aU 0 [AV.int .i64 k0,AV.int .i64 k1,vs,fs])) (xs:=xv) (.inl ⟨rfl,rfl⟩) (qO tk_val hTxv) (fun _ h=>nomatch h) (Nat.le_refl _) (by have:=hcat 0;rw [hc0]at this;rw [List.length_nil];omega)
  rw [List.nil_append,<-hc0]at hA
  simp +contextual +decide (maxSteps:=1000000) only [↓ wP,wQ,tf,Nat.reduceAdd,wS,reduceCtorEq,hcv,hcf,hap,hcvO,cG]
  refine hrun _ (fun _ h=>h) ?_
  have hg0:ob.get n0=some (aU 0 [AV.int .i64 k0,AV.int .i64 k1,vs,fs]):=(hk n0 (Nat.lt_succ_self _)).trans (Tr.get_set_same _ _ _)
  have hold:∀ id,id<n0->ob.get id=o0.get id:=fun id hid=>(hk id (by omega)).trans (Tr.get_set_ne _ _ (by omega))
  have hlw:n0<=low:=hl n0 (Nat.le_succ _) (Nat.le_refl _)
  simp +contextual +decide (maxSteps:=1000000) only [↓ wP,wQ,tf,Nat.reduceAdd,wS,reduceCtorEq]
  refine aQ (fun i e=>∃ t n low o vv,e=⟨64,none,74,t,[],⟨n,low,o⟩,.no⟩/\t.val 0=v/\t.val 3=.ptr n0 0 0/\t.val 5=vv/\t.val 6=.int .i64 (i:Nat)/\o.get n0=some (aU 0 [AV.int .i64 k0,AV.int .i64 k1,vs,fs])/\(∀ id,id<n0->o.get id=o0.get id)/\n0+1<=n/\n0<=low/\AccM 2 (n0+1) vv n o ((bU (nR vs (fl.take i))).map AV.cells)/\i<=fl.length) (fun i=>fl.length-i) 0
   ⟨_,_,_,_,vv,rfl,by simp +decide only [↓ aA,aE,aB],by simp +decide only [↓ aA,aE,aB],by simp +decide only [↓ aA,aE,aB],by simp +decide only [↓ aA,aE,aB];rfl,hg0,hold,hn,hlw,hA,Nat.zero_le _⟩ ?_
  clear hrun hk hl hA hg0 hn hold hlw n low ob vv
  rintro i _ ⟨t,n,low,o,vv,rfl,t0,t3,t5,t6,g0,hold,hn,hlw,hA,hi⟩
  have f0:=gU (show n0<n by omega)
  rcases Nat.lt_or_ge i fl.length with hlt | hge
  ·obtain ⟨f,hDf,hm,hgx,_,hix,hw,hcl⟩:=bK (k:=3) (fun x h=>tk_fr.len h) hTf (show fl.length<=9223372036854775807 by omega) hlt
   obtain ⟨a,b,d,rfl,⟨ka,rfl⟩,hb,hd⟩:=hDf
   have hcb:=(tu_vals b hb).2
   have hcd:=(tu_vals d hd).2
   obtain ⟨xb,hsb,hTb⟩:=hb
   obtain ⟨xd,hsd,hTd⟩:=hd
   have hapb:∀ {s:Sto},yV s 2 b=some (xb.length,(xb.map AV.cells).flatten):=fun {s}=>uF hsb (qO tk_val hTb)
   have hapd:∀ {s:Sto},yV s 2 d=some (xd.length,(xd.map AV.cells).flatten):=fun {s}=>uF hsd (qO tk_val hTd)
   have hub:=fun {n:Nat}=>(rF hsb fun x hx=>(tk_val x (hTb x hx)).1).mono (Nat.zero_le n)
   have hud:=fun {n:Nat}=>(rF hsd fun x hx=>(tk_val x (hTd x hx)).1).mono (Nat.zero_le n)
   have hsn:bU (nR vs (fl.take (i+1)))=bU (nR vs (fl.take i))++xb++xd:=by
    have:=IK hgx
    rw [nR,this,<-List.cons_append,<-nR,bU,bU,List.map_append,List.flatten_append]
    simp [AV.fld,hsb.els,hsd.els]
   have hcv:=AccM.und hA
   have hli:=hcat (i+1)
   rw [hsn,List.length_append,List.length_append]at hli
   have hr0:=hrow i
   have hr1:∀ x∈(bU (nR vs (fl.take i))).map AV.cells++xb.map AV.cells,x.length=2:=fun x hx=>by
    rcases List.mem_append.1 hx with hx | hx
    ·exact hr0 x hx
    ·obtain ⟨y,hy,rfl⟩:=List.mem_map.1 hx;exact tk_val.len (hTb y hy)
   generalize bU (nR vs (fl.take i))=C at *
   have hCl:(C.map AV.cells).length=C.length:=List.length_map ..
   have hCl2:(C.map AV.cells++xb.map AV.cells).length=C.length+xb.length:=by rw [List.length_append,List.length_map,List.length_map]
   by_cases z0:C.map AV.cells=[]/\xb=[]
   ·obtain ⟨z0,rfl⟩:=z0
    obtain rfl:vv=.nils:=by
     rcases hA with ⟨_,h⟩ | ⟨h,_⟩
     ·exact h
     ·exact (h z0).elim
    have hC:C=[]:=by simpa using z0
    subst hC
    by_cases z1:xd=[]
    ·subst z1
     simp +contextual +decide (maxSteps:=1000000) only [↓ wP,wQ,tf,Nat.reduceAdd,wS,reduceCtorEq,XK,AB,iZ,qN,fH,t0,t3,t5,t6,g0,f0,cG,hcf,hsf.len,hsf.idx,hix,hcl,hw,hcb,hcd,hapb,hapd,hub,hud,hcv,wY,List.length_nil,List.map_nil,List.flatten_nil]
     exact ⟨i+1,by show _-_<_-_;omega,_,_,_,_,.nils,rfl,by simp +decide only [↓ aA,aE,aB,t0],by simp +decide only [↓ aA,aE,aB,t3],by simp +decide only [↓ aA,aE,aB],by simp +decide only [↓ aA,aE,aB],g0,hold,hn,hlw,by rw [hsn];exact .inl ⟨rfl,rfl⟩,hlt⟩
    ·obtain ⟨v2,n2,low2,o2,q2,hA2,hn2,hk2,hl2⟩:=uD (by_:=16) (low:=low) hA (fun h=>z1 h.2) (qO tk_val hTd) hr0 hn (by rw [hCl];omega)
     have ks2:lT (qH n (n0+1)) ⟨n,low,o⟩ ⟨n2,low2,o2⟩:=nP (Nat.min_le_right _ _) hn hn2 hk2
     have g2:=(hk2 n0 (by omega)).trans g0
     simp +contextual +decide (maxSteps:=1000000) only [↓ wP,wQ,tf,Nat.reduceAdd,wS,reduceCtorEq,XK,AB,iZ,qN,fH,t0,t3,t5,t6,g0,f0,cG,hcf,hsf.len,hsf.idx,hix,hcl,hw,hcb,hcd,hapb,hapd,hub,hud,hcv,wY,q2,List.length_nil,List.map_nil,List.flatten_nil,hn2,ks2]
     refine ⟨i+1,by show _-_<_-_;omega,_,_,_,_,v2,rfl,by simp +decide only [↓ aA,aE,aB,t0],by simp +decide only [↓ aA,aE,aB,t3],by simp +decide only [↓ aA,aE,aB],by simp +decide only [↓ aA,aE,aB],g2,fun id hid=>(hk2 id (by omega)).trans (hold id hid),by omega,hl2 n0 (by omega) hlw,?_,hlt⟩
     rw [hsn,List.append_nil,List.nil_append]
     exact hA2
   ·obtain ⟨v1,n1,low1,o1,q1,hA1,hn1,hk1,hl1⟩:=uD (by_:=16) (low:=low) hA z0 (qO tk_val hTb) hr0 hn (by omega)
    have z1:¬ (C.map AV.cells++xb.map AV.cells=[]/\xd=[]):=fun e=>z0 (by simpa using e.1)
    obtain ⟨v2,n2,low2,o2,q2,hA2,hn2,hk2,hl2⟩:=uD (by_:=16) (low:=low1) hA1 z1 (qO tk_val hTd) hr1 (by omega) (by omega)
    have hu1:=AccM.und hA1
    have g1:=(hk1 n0 (by omega)).trans g0
    have f1:=gU (show n0<n1 by omega)
    have ks1:lT (qH n (n0+1)) ⟨n,low,o⟩ ⟨n1,low1,o1⟩:=nP (Nat.min_le_right _ _) hn hn1 hk1
    have ks2:lT (qH n (n0+1)) ⟨n1,low1,o1⟩ ⟨n2,low2,o2⟩:=nP (Nat.min_le_right _ _) (by omega) hn2 hk2
    simp +contextual +decide (maxSteps:=1000000) only [↓ wP,wQ,tf,Nat.reduceAdd,wS,reduceCtorEq,XK,AB,iZ,qN,fH,t0,t3,t5,t6,g0,f0,cG,hcf,hsf.len,hsf.idx,hix,hcl,hw,hcb,hcd,hapb,hapd,hub,hud,q1,q2,hcv,hu1,g1,f1,hn1,hn2,ks1,ks2]
    refine ⟨i+1,by show _-_<_-_;omega,_,_,_,_,v2,rfl,by simp +decide only [↓ aA,aE,aB,t0],by simp +decide only [↓ aA,aE,aB,t3],by simp +decide only [↓ aA,aE,aB],by simp +decide only [↓ aA,aE,aB],(hk2 n0 (by omega)).trans g1,fun id hid=>(hk2 id (by omega)).trans ((hk1 id (by omega)).trans (hold id hid)),by omega,hl2 n0 (by omega) (hl1 n0 (by omega) hlw),?_,hlt⟩
    rw [hsn,List.map_append,List.map_append]
    exact hA2
  ·obtain rfl:i=fl.length:=Nat.le_antisymm hi hge
   rw [List.take_length,<-hvO]at hA
   simp +contextual +decide (maxSteps:=1000000) only [↓ wP,wQ,tf,Nat.reduceAdd,wS,reduceCtorEq,t0,t3,t5,t6,bG,g0,f0,hcf,hsf.len,cG]
   rw [<-hvO]at hvl
   generalize cU (AV.agg [.int .i64 k0,.int .i64 k1,vs,fs])=vl at *
   have hAI:AccI lo v n o (bB R):=hA0.keep (by omega) fun id _ hid=>hold id hid
   have hdis:∀ id g c,v=.sl id g 0 (bB R).length c->id<n0:=fun id g c e=>by
    rcases hA0 with ⟨_,rfl⟩ | ⟨_,id',g',c',rfl,_,_,_,h4⟩
    ·cases e
    ·rw [<- (AV.sl.inj e).1];exact h4
   refine aQ (fun i e=>∃ t n low o vO,e=⟨64,none,74,t,[],⟨n,low,o⟩,.no⟩/\t.val 0=vO/\t.val 5=vv/\t.val 7=.int .i64 (i:Nat)/\(∀ id,id<lo->o.get id=o0.get id)/\n0+1<=n/\lo<=low/\AccM 2 (n0+1) vv n o (vl.map AV.cells)/\AccI lo vO n o (bB (zO R vl i))/\(∀ id g c,vO=.sl id g 0 (bB (zO R vl i)).length c->∀ iv gv cv,vv=.sl iv gv 0 vl.length cv->id≠iv)/\i<=vl.length) (fun i=>vl.length-i) 0
    ⟨_,_,_,_,v,rfl,by simp +decide only [↓ aA,aE,aB,t0],by simp +decide only [↓ aA,aE,aB,t5],by simp +decide only [↓ aA,aE,aB];rfl,fun id hid=>hold id (by omega),hn,by omega,hA,hAI,fun id g c e iv gv cv e2=>?_,Nat.zero_le _⟩ ?_
   ·have h1:=hdis id g c e
    rcases hA with ⟨_,rfl⟩ | ⟨_,id',g',rfl,_,_,h4⟩
    ·cases e2
    ·rw [<- (AV.sl.inj e2).1];omega
   clear t0 t3 t5 t6 g0 hold hn hlw hA hi hge hAI hdis f0
   rintro i _ ⟨t,n,low,o,vO,rfl,t0,t5,t7,hold,hn,hlw,hA,hAI,hdis,hi⟩
   have hcO:=hAI.cell
   have hplen:=hput i
   rcases Nat.lt_or_ge i vl.length with hlt | hge
   ·rcases hA with ⟨e,_⟩ | ⟨hne,iv,gv,rfl,hgv,hivn,hivl⟩
    ·rw [List.map_eq_nil_iff.1 e]at hlt;exact absurd hlt (Nat.not_lt_zero _)
    have hvi:=List.getElem?_eq_getElem hlt
    have hmv:=List.getElem_mem hlt
    have hrc:=SP hvi (fun x hx=>tk_val.len (hTv x hx))
    have hsn:=SO (R:=R) hvi
    have hrf:=href _ hmv
    have hTvi:=hTv _ hmv
    generalize vl[i]=y at *
    obtain ⟨_,_,rfl,⟨ka,rfl⟩,⟨kb,rfl⟩⟩:=hTvi
    have fv:=gU hivn
    have hll:(vl.map AV.cells).length=vl.length:=List.length_map ..
    rw [hll]at t5 hdis
    have r0:(vl.map AV.cells).flatten[i*2+0]?=some (.int .i64 ka):=hrc 0 (by decide)
    have r1:(vl.map AV.cells).flatten[i*2+1]?=some (.int .i64 kb):=hrc 1 (by decide)
    have k1:(((i:Nat):Int)<(((vl.map AV.cells).length:Nat):Int))=True:=eq_true (by rw [hll];omega)
    have k3:(((i:Nat):Int)<((vl.length:Nat):Int))=True:=eq_true (by omega)
    have k2:(0<=((i:Nat):Int))=True:=eq_true (by omega)
    have hwi:IntKind.i64.wrap ((i:Int)+1)=((i+1:Nat):Int):=by rw [IntWalk.i64_in _ (by omega)];rfl
    rw [show ((AV.agg [.int .i64 ka,.int .i64 kb]).fld 0).num=ka from rfl,show ((AV.agg [.int .i64 ka,.int .i64 kb]).fld 1).num=kb from rfl]at hsn hrf
    by_cases h5:ka=5
    ·subst h5
     rw [if_pos rfl]at hsn
     obtain ⟨z1,z2⟩:=hrf rfl
     obtain ⟨b,rfl⟩:∃ b:Nat,kb=(b:Nat):=⟨kb.toNat,by omega⟩
     rw [Int.toNat_natCast]at hsn
     have hli:=fun {low:Nat}=>uC (s:=⟨n,low,o⟩) (RowN.acc hAI) (by omega) b []
     generalize zO R vl i=Q at *
     by_cases hb:b∈Q
     ·rw [decide_eq_true hb]at hli
      rw [mF,if_pos hb]at hsn
      simp +contextual +decide (maxSteps:=1000000) only [↓ wP,wQ,tf,Nat.reduceAdd,wS,reduceCtorEq,t0,t5,t7,hgv,fv,cG,k1,k3,k2,r0,r1,hli,hcO,hwi,Int.toNat_natCast,Nat.zero_add]
      exact ⟨i+1,by show _-_<_-_;omega,_,_,_,_,vO,rfl,by simp +decide only [↓ aA,aE,aB,t0],by simp +decide only [↓ aA,aE,aB,t5],by simp +decide only [↓ aA,aE,aB],hold,hn,hlw,.inr ⟨hne,iv,gv,by rw [hll],hgv,hivn,hivl⟩,by rw [hsn];exact hAI,by rw [hsn];exact hdis,hlt⟩
     ·rw [decide_eq_false hb]at hli
      rw [mF,if_neg hb]at hsn
      have s1:∀ {a:AV},[AV.int .i64 0].set (0*1) a=[a]:=rfl
      have hA':AccI lo vO (n+1) (o.set n (aU 0 [.int .i64 (b:Nat)])) (bB Q):=hAI.keep (Nat.le_succ n) fun id _ h2=>Tr.get_set_ne _ _ (by omega)
      obtain ⟨v',n',low',o',a1,a2,a3,a4,a5,a6,a7⟩:=hA'.app2 (low:=low) (by_:=8) lC (x:=.int .i64 (b:Nat)) rfl (by omega) (by rw [bE];omega) (q:=iv) (by omega) (fun id g c e=>hdis id g c e iv gv (.room 2) rfl)
      simp +contextual +decide (maxSteps:=1000000) only [↓ wP,wQ,tf,Nat.reduceAdd,wS,reduceCtorEq,t0,t5,t7,hgv,fv,cG,k1,k3,k2,r0,r1,hli,hcO,hwi,s1,a1,Int.toNat_natCast,Nat.zero_add]
      refine ⟨i+1,by show _-_<_-_;omega,_,_,_,_,v',rfl,by simp +decide only [↓ aA,aE,aB],by simp +decide only [↓ aA,aE,aB,t5],by simp +decide only [↓ aA,aE,aB],fun id hid=>(a4 id hid).trans ((Tr.get_set_ne _ _ (by omega)).trans (hold id hid)),by omega,a5 hlw,.inr ⟨hne,iv,gv,by rw [hll],(a6.trans (Tr.get_set_ne _ _ (by omega))).trans hgv,by omega,hivl⟩,by rw [hsn,iW];exact a2,fun id g c e iv' gv' cv e2=>?_,hlt⟩
      rw [hsn,iW]at e
      rw [<- (AV.sl.inj e2).1]
      exact a7 id g c e
    ·rw [if_neg h5]at hsn
     simp +contextual +decide (maxSteps:=1000000) only [↓ wP,wQ,tf,Nat.reduceAdd,wS,reduceCtorEq,t0,t5,t7,hgv,fv,cG,k1,k3,k2,r0,r1,hcO,hwi,h5,Int.toNat_natCast,Nat.zero_add]
     exact ⟨i+1,by show _-_<_-_;omega,_,_,_,_,vO,rfl,by simp +decide only [↓ aA,aE,aB,t0],by simp +decide only [↓ aA,aE,aB,t5],by simp +decide only [↓ aA,aE,aB],hold,hn,hlw,.inr ⟨hne,iv,gv,by rw [hll],hgv,hivn,hivl⟩,by rw [hsn];exact hAI,by rw [hsn];exact hdis,hlt⟩
   ·obtain rfl:i=vl.length:=Nat.le_antisymm hi hge
    have hll:(vl.map AV.cells).length=vl.length:=List.length_map ..
    have k1:(((vl.length:Nat):Int)<((vl.length:Nat):Int))=False:=eq_false (Int.lt_irrefl _)
    rcases hA with ⟨e,rfl⟩ | ⟨hne,iv,gv,rfl,hgv,hivn,hivl⟩
    ·have h0:vl.length=0:=by rw [List.map_eq_nil_iff.1 e];rfl
     rw [h0]at t7
     simp +contextual +decide (maxSteps:=1000000) only [↓ wP,wQ,tf,Nat.reduceAdd,wS,reduceCtorEq,t0,t5,t7]
     exact ⟨hAI,by omega,hold,hlw⟩
    ·rw [hll]at t5
     simp +contextual +decide (maxSteps:=1000000) only [↓ wP,wQ,tf,Nat.reduceAdd,wS,reduceCtorEq,t0,t5,t7,k1]
     exact ⟨hAI,by omega,hold,hlw⟩
 obtain ⟨S,v',⟨h1,h2,h3,h4⟩,h5⟩:=key
 exact ⟨_,v,R,o,rfl,h,⟨v',{S with low:=Nat.min low0 S.low},rfl,h1,h2,h3,fun m hm (hl:m<=low0)=>Nat.le_min.2 ⟨hl,Nat.le_trans hm h4⟩⟩,h5⟩
theorem zP:∀ (l R:List Nat),R <+: l.foldl mF R
 | [],R=>List.prefix_rfl
 | y::l,R=>List.IsPrefix.trans putN_pre (zP l (mF R y))
theorem WLs.puts {g:Nat->List Nat} {N j:Nat} {rs:List Nat}:∀ (l R:List Nat),WLs g N rs j R->(∀ x∈l,x<N/\∃ r∈rs,Abs.Way g r x)->WLs g N rs j (l.foldl mF R)
 | [],_,h,_=>h
 | y::l,R,h,hl=>WLs.puts l (mF R y) (h.put (hl y (List.mem_cons_self ..))) fun x hx=>hl x (List.mem_cons_of_mem _ hx)
theorem WLs.next {A:List AV} {g:Nat->List Nat} {rs R vl:List Nat} {j n:Nat} (h:WLs g A.length rs j R) (hn:R[j]?=some n) (hg:g n=vl) (hlt:∀ y∈g n,y<A.length):WLs g A.length rs (j+1) (vl.foldl mF R):=by
 subst hg
 obtain ⟨_,r,hr,hw⟩:=h.lt n (List.mem_of_getElem? hn)
 have h2:=h.puts (g n) R fun x hx=>⟨hlt x hx,r,hr,hw.trans (.step hx (.refl _))⟩
 refine h2.step ?_ fun y hy=>((tK (g n) R h.nd).2 y).2 (.inr hy)
 have hjl:=(List.getElem?_eq_some_iff.1 hn).1
 have:=List.prefix_iff_getElem?.1 (zP (g n) R) j hjl
 rw [<-List.getElem?_eq_getElem hjl,hn]at this;exact this
theorem RRef.und {lo:Nat}:bS Tryz.prog (bJ 74 (RRef lo)):=iI fun _ _ _ h=>by obtain ⟨_,_,_,_,_,_,h⟩:=h;exact h
theorem QF {lo N:Nat} {s:Sto} {v o:AV} {R:List Nat} (h:AccI lo v s.n s.o (bB R)) (hlo:lo<=s.n) (hN:N<=900) (hnd:R.Nodup) (hRN:∀ x∈R,x<N) (ho:xO o) (href:∀ x∈cU o,(x.fld 0).num=5->0<=(x.fld 1).num/\(x.fld 1).num<N):
 ∃ v' S,(AccI lo v' S.n S.o (bB ((fX (cU o)).foldl mF R))/\s.n<=S.n/\(∀ id,id<lo->S.o.get id=s.o.get id)/\(∀ m,m<=lo->m<=s.low->m<=S.low))/\∀ L,orcL (bJ 74 (RRef lo)::L) 74 [v,o] s=some (.ret v' (some S)):=by
 obtain ⟨res,h1,h2⟩:=dV (f:=74) (SQ h hlo hN hnd hRN ho href)
 obtain ⟨v1,R1,o1,e1,h3,⟨v',S,rfl,h4⟩,_⟩:=h1
 simp only [List.cons.injEq,and_true]at e1
 obtain ⟨rfl,rfl⟩:=e1
 obtain rfl:R=R1:=wC (AccI.uniq h h3)
 rw [zO,List.take_length]at h4
 exact ⟨v',S,h4,h2⟩
section
variable {os ts us is no:AV}
def XL (n:Nat):cJ:=fun r=>if r=5 then ([9],[]) else if r=6 then ([],[1000,iD n,12]) else ([],[])
theorem aIq {n:Nat}:XL n 5=([9],[]):=rfl
theorem aIr {n:Nat}:XL n 6=([],[1000,iD n,12]):=rfl
def LY (os ts us is no:AV) (args:List AV) (s:Sto) (res:CRes):Prop:=∃ id g c k,args=[qK os ts us is no,.sl id g 0 1 c]/\s.get id=some (aU g [.int .i64 ((k:Nat):Int)])/\(∃ v' S,res=.ret v' (some S)/\AccI s.n v' S.n S.o (bB [bQ ts k])/\s.n<=S.n/\(∀ id,id<s.n->S.o.get id=s.o.get id)/\(∀ m,m<=s.n->m<=s.low->m<=S.low))/\bH Tryz.prog 73 args s res
set_option maxHeartbeats 4000000 in
theorem SR (h:GW os ts us is no) {s:Sto} {id g k:Nat} {c:ACap} (hg:s.get id=some (aU g [.int .i64 (k:Nat)])) (hk:k<ts.els.length):∃ res,LY os ts us is no [qK os ts us is no,.sl id g 0 1 c] s res:=by
 obtain ⟨n0,low0,o0⟩:=s
 have hid:id<n0:=Sto.get_lt hg
 have hg0:=hg
 rw [Sto.get_mk hid]at hg
 have key:∃ (S:Sto) (v':AV),(AccI (n0+1) v' S.n S.o (bB [bQ ts k])/\n0<=S.n/\(∀ id,id<n0->S.o.get id=o0.get id)/\n0<=S.low)/\bH Tryz.prog 73 [qK os ts us is no,.sl id g 0 1 c] ⟨n0,low0,o0⟩ (.ret v' (some {S with low:=Nat.min low0 S.low})):=by
  refine rY (L:=[bJ 75 sV]) (elist_cons yX aG) (XL (n0+1)) (by kernel_rfl) Tryz.func73 Tryz.ntmps73 Tryz.results73 rfl rfl ?_
  obtain ⟨c0,c1,c2,c3,c4⟩:=h.g.cells
  have hst:Sl ts ts.els:=by
   obtain ⟨xs,hs,_⟩:=h.g.ts
   rw [hs.els];exact hs
  obtain ⟨q1,q2⟩:=h.task hk
  have f0:=gU hid
  simp +contextual +decide (maxSteps:=1000000) only [↓ wP,wQ,tf,Nat.reduceAdd,wS,reduceCtorEq,c0,c1,c2,c3,c4,f0,cG]
  refine aQ (fun i e=>∃ t n low o v,e=⟨36,none,73,t,[],⟨n,low,o⟩,.no⟩/\t.val 1=.sl id g 0 1 c/\t.val 2=.ptr n0 0 0/\t.val 5=v/\t.val 6=.int .i64 (i:Nat)/\o.get n0=some (aU 0 [os,ts,us,is,no])/\(∀ id,id<n0->o.get id=o0.get id)/\n0+1<=n/\n0<=low/\AccI (n0+1) v n o (bB (if i=0 then [] else [bQ ts k]))/\(i=0->v=.nils)/\i<=1) (fun i=>1-i) 0
   ⟨_,_,_,_,.nils,rfl,by simp +decide only [↓ aA,aE,aB],by simp +decide only [↓ aA,aE,aB],by simp +decide only [↓ aA,aE,aB],by simp +decide only [↓ aA,aE,aB];rfl,by simp +decide only [↓ aA,aL,aB,ne_eq,cG],fun id hid=>Tr.get_set_ne _ _ (by omega),Nat.le_refl _,Nat.le_refl _,.inl ⟨rfl,rfl⟩,fun _=>rfl,Nat.zero_le _⟩ ?_
  rintro i _ ⟨t,n,low,o,v,rfl,t1,t2,t5,t6,g0,hold,hn,hlow,hA,hv0,hi⟩
  have f1:=gU (show n0<n by omega)
  have f2:=gU (show id<n by omega)
  have g2:=(hold id hid).trans hg
  have hca:=hA.cell
  rcases Nat.lt_or_ge i 1 with hlt | hge
  ·obtain rfl:i=0:=by omega
   obtain rfl:=hv0 rfl
   have hix:=fun {q:IntKind} {d:Option AV}=>wX (k:=1) q2 rfl (q:=q) (d:=d)
   have hz:[AV.int IntKind.i64 (k:Nat)][0+(((0:Nat):Int)).toNat*1]?=some (.int .i64 (k:Nat)):=rfl
   have s1:∀ {a:AV},[AV.int .i64 0].set (0*1) a=[a]:=rfl
   have hli:=fun {s:Sto}=>uC (s:=s) (v:=.nils) (l:=[]) (.inl ⟨rfl,rfl⟩) (by simp) (bQ ts k) []
   rw [show decide (bQ ts k∈([]:List Nat))=false from rfl]at hli
   have hA':AccI (n0+1) .nils (n+1) (o.set n (aU 0 [.int .i64 (bQ ts k:Nat)])) (bB []):=hA.keep (Nat.le_succ n) fun id _ h2=>Tr.get_set_ne _ _ (by omega)
   obtain ⟨v',n',low',o',r1,r2,r3,r4,r5⟩:=hA'.app (low:=low) (by_:=8) lC (x:=.int .i64 (bQ ts k:Nat)) rfl (by omega) (by rw [bE];exact ⟨by decide,by decide⟩)
   have hidn:id<n0+1:=by omega
   have ks:lT (qH n (n0+1)) ⟨n+1,low,o.set n (aU 0 [.int .i64 (bQ ts k:Nat)])⟩ ⟨n',low',o'⟩:=nP (Nat.min_le_right _ _) (by omega) r3 r4
   simp +contextual +decide (maxSteps:=1000000) only [↓ wP,wQ,tf,Nat.reduceAdd,wS,reduceCtorEq,aIq,aIr,AB,iZ,qN,fH,t1,t2,t5,t6,g0,g2,f1,f2,cG,hz,hst.idx,hix,s1,r1,hli,hidn,r3,ks]
   exact ⟨1,by decide,_,_,_,_,v',rfl,by simp +decide only [↓ aA,aE,aB,t1],by simp +decide only [↓ aA,aE,aB,t2],by simp +decide only [↓ aA,aE,aB],by simp +decide only [↓ aA,aE,aB];rfl,(r4 n0 (Nat.lt_succ_self _)).trans ((Tr.get_set_ne _ _ (by omega)).trans g0),fun id hid=>(r4 id (by omega)).trans ((Tr.get_set_ne _ _ (by omega)).trans (hold id hid)),by omega,r5 n0 (Nat.le_succ _) hlow,r2,fun h=>absurd h (by decide),Nat.le_refl _⟩
  ·obtain rfl:i=1:=by omega
   rw [if_neg (by decide)]at hA
   simp +contextual +decide (maxSteps:=1000000) only [↓ wP,wQ,tf,Nat.reduceAdd,wS,reduceCtorEq,t1,t2,t5,t6]
   exact ⟨hA,by omega,hold,hlow⟩
 obtain ⟨S,v',⟨h1,h2,h3,h4⟩,h5⟩:=key
 refine ⟨_,id,g,c,k,rfl,hg0,⟨v',{S with low:=Nat.min low0 S.low},rfl,?_,h2,h3,fun m hm (hl:m<=low0)=>Nat.le_min.2 ⟨hl,Nat.le_trans hm h4⟩⟩,h5⟩
 rcases h1 with ⟨e,_⟩ | ⟨hne,id',g',c',e1,e2,e3,e4,e5⟩
 ·cases e
 ·exact .inr ⟨hne,id',g',c',e1,e2,e3,Nat.le_of_succ_le e4,e5⟩
end
section
variable {os ts us is no:AV}
theorem aDq (h:GW os ts us is no) {s:Sto} {id g k:Nat} {c:ACap} (hg:s.get id=some (aU g [.int .i64 (k:Nat)])) (hk:k<ts.els.length):
 ∃ v' S,(AccI s.n v' S.n S.o (bB [bQ ts k])/\s.n<=S.n/\(∀ id,id<s.n->S.o.get id=s.o.get id)/\(∀ m,m<=s.n->m<=s.low->m<=S.low))/\∀ L,orcL (bJ 73 (LY os ts us is no)::L) 73 [qK os ts us is no,.sl id g 0 1 c] s=some (.ret v' (some S)):=by
 obtain ⟨res,h1,h2⟩:=dV (f:=73) (SR h (c:=c) hg hk)
 obtain ⟨id1,g1,c1,k1,e1,h3,⟨v',S,rfl,h4⟩,_⟩:=h1
 simp only [List.cons.injEq,AV.sl.injEq,true_and,and_true]at e1
 obtain ⟨rfl,rfl,rfl⟩:=e1
 rw [hg]at h3
 have h5:=(mJ (Option.some.inj h3)).2
 simp only [List.cons.injEq,AV.int.injEq,true_and,and_true]at h5
 obtain rfl:k=k1:=by omega
 exact ⟨v',S,h4,h2⟩
theorem aDr:bS Tryz.prog (bJ 73 (LY os ts us is no)):=iI fun _ _ _ h=>by obtain ⟨_,_,_,_,_,_,_,h⟩:=h;exact h
def aLs (n:Nat):cJ:=fun r=>if r=5 then ([],[1000,iD n,11,6]) else ([],[])
theorem aLt {n:Nat}:aLs n 5=([],[1000,iD n,11,6]):=rfl
def aDs (os ts us is no:AV) (args:List AV) (s:Sto) (res:CRes):Prop:=∃ id g c k,args=[qK os ts us is no,.sl id g 0 1 c]/\s.get id=some (aU g [.int .i64 ((k:Nat):Int)])/\res=.ret (bF (bC os ts k)) none/\bH Tryz.prog 34 args s res
set_option maxHeartbeats 8000000 in
theorem SS (h:GW os ts us is no) {s:Sto} {id g k:Nat} {c:ACap} (hg:s.get id=some (aU g [.int .i64 (k:Nat)])) (hk:k<ts.els.length):∃ res,aDs os ts us is no [qK os ts us is no,.sl id g 0 1 c] s res:=by
 refine ⟨_,id,g,c,k,rfl,hg,rfl,?_⟩
 obtain ⟨n0,low0,o0⟩:=s
 have hid:id<n0:=Sto.get_lt hg
 rw [Sto.get_mk hid]at hg
 refine DN (L:=[bJ 73 (LY os ts us is no),bJ 74 (RRef (n0+1)),bJ 75 sV]) (elist_cons aDr (elist_cons RRef.und (elist_cons yX aG))) (aLs (n0+1)) (by kernel_rfl) Tryz.func34 Tryz.ntmps34 Tryz.results34 rfl rfl ?_
 obtain ⟨c0,c1,c2,c3,c4⟩:=h.g.cells
 have hso:Sl os os.els:=by
  obtain ⟨xs,hs,_⟩:=h.g.os
  rw [hs.els];exact hs
 have hol:=h.ol
 obtain ⟨q1,q2⟩:=h.task hk
 obtain ⟨v1,⟨n1,low1,o1⟩,⟨p1,p2,p3,p4⟩,p5⟩:=aDq h (s:=⟨n0+1,n0,o0.set n0 (aU 0 [os,ts,us,is,no])⟩) (c:=c) ((Sto.get_mk (by omega)).trans ((Tr.get_set_ne _ _ (by omega)).trans hg)) hk
 have p5':orcL [bJ 73 (LY os ts us is no),bJ 74 (RRef (n0+1)),bJ 75 sV] 73 [qK os ts us is no,.sl id g 0 1 c] ⟨n0+1,n0,o0.set n0 (aU 0 [os,ts,us,is,no])⟩=_:=p5 [bJ 74 (RRef (n0+1)),bJ 75 sV]
 have p1':AccI (n0+1) v1 n1 o1 (bB [bQ ts k]):=p1
 have p2':n0+1<=n1:=p2
 have p3':∀ id,id<n0+1->o1.get id=(o0.set n0 (aU 0 [os,ts,us,is,no])).get id:=p3
 have p4':n0<=low1:=p4 n0 (Nat.le_succ _) (Nat.le_refl _)
 have hg1:o1.get n0=some (aU 0 [os,ts,us,is,no]):=(p3' n0 (Nat.lt_succ_self _)).trans (Tr.get_set_same _ _ _)
 have hc1:=p1'.cell
 simp +contextual +decide (maxSteps:=1000000) only [↓ wP,wQ,tf,Nat.reduceAdd,wS,reduceCtorEq,c0,c1,c2,c3,c4,p5',hc1,cG]
 have hW:WLs (mH os.els) os.els.length [bQ ts k] 0 [bQ ts k]:=
  {nd:=by simp,lt:=fun x hx=>by obtain rfl:=List.mem_singleton.1 hx;exact ⟨q1,_,hx,.refl _⟩,ro:=fun r hr=>hr,jl:=Nat.zero_le _,cl:=fun i n hi=>(Nat.not_lt_zero _ hi).elim}
 refine aQ (fun j e=>∃ t n low o v R,e=⟨43,none,34,t,[],⟨n,low,o⟩,.no⟩/\t.val 2=.ptr n0 0 0/\t.val 5=v/\t.val 6=.int .i64 (j:Nat)/\o.get n0=some (aU 0 [os,ts,us,is,no])/\n0+1<=n/\n0<=low/\AccI (n0+1) v n o (bB R)/\WLs (mH os.els) os.els.length [bQ ts k] j R) (fun j=>os.els.length-j) 0
  ⟨_,_,_,_,v1,_,rfl,by simp +decide only [↓ aA,aE,aB],by simp +decide only [↓ aA,aE,aB],by simp +decide only [↓ aA,aE,aB];rfl,hg1,p2',p4',p1',hW⟩ ?_
 clear hW p1' p2' p3' p4' hg1 p1 p2 p3 p4 p5 p5' hc1
 rintro j _ ⟨t,n,low,o,v,R,rfl,t2,t5,t6,g0,hn,hlow,hA,hW⟩
 have f1:=gU (show n0<n by omega)
 have hRl:=hW.len
 have hjl:=hW.jl
 have hA0:=hA
 have hca:=hA.cell
 have hu:=AccI.und hA
 rcases hA with ⟨e,_⟩ | ⟨h0,id2,g2,c2,rfl,_,hg2,hlo2,hlt2⟩
 ·have:=hW.ro _ (List.mem_singleton.2 rfl)
  rw [List.map_eq_nil_iff.1 e]at this;cases this
 rw [bE]at t5 hA0 hu
 have f3:=gU hlt2
 rcases Nat.lt_or_ge j R.length with hlt | hge
 ·have hRj:=List.getElem?_eq_getElem hlt
  have hmR:=List.getElem_mem hlt
  generalize R[j]=m at *
  obtain ⟨hmN,r0,hr0,hmW⟩:=hW.lt m hmR
  obtain ⟨xs,hs,hTos⟩:=h.g.os
  have hels:=hs.els
  have hgd:=h.a.good
  have hrefs:=h.a.refs
  rw [hels]at hmN hgd
  obtain ⟨x,hDx,hm,hgx,_,hix,hw,hcl⟩:=bK (k:=4) (fun x h=>tk_ob.len h) hTos (show xs.length<=9223372036854775807 by have:=hs.2;omega) hmN
  have hpf:=fun {d:Option AV}=>tk_ob.pf hDx (d:=d)
  have hgo:=hgd x hm
  have hrf:=hrefs x (by rw [hels];exact hm)
  have hjk:=zR hRj
  have k1:(((j:Nat):Int)<((R.length:Nat):Int))=True:=eq_true (by omega)
  have k2:(0<=((j:Nat):Int))=True:=eq_true (by omega)
  have hwj:IntKind.i64.wrap ((j:Int)+1)=((j+1:Nat):Int):=by rw [IntWalk.i64_in _ (by omega)];rfl
  have hux:UnderE n x:=(tk_ob x hDx).1.mono (Nat.zero_le n)
  have hgm:mH os.els m=fX (cU x):=by rw [mH,hels,List.getD_eq_getElem?_getD,hgx];rfl
  obtain ⟨v',⟨n',low',o'⟩,⟨a1,a2,a3,a4⟩,a5⟩:=QF (s:=⟨n,low,o⟩) (lo:=n0+1) (N:=os.els.length) hA0 hn (by omega) hW.nd (fun x hx=>(hW.lt x hx).1) hgo hrf
  have a5':orcL [bJ 73 (LY os ts us is no),bJ 74 (RRef (n0+1)),bJ 75 sV] 74 [.sl id2 g2 0 R.length c2,x] ⟨n,low,o⟩=_:=a5 [bJ 75 sV]
  have a2':n<=n':=a2
  have ks:lT (qH n (n0+1)) ⟨n,low,o⟩ ⟨n',low',o'⟩:=nP (Nat.min_le_right _ _) hn a2 a3
  simp +contextual +decide (maxSteps:=1000000) only [↓ wP,wQ,tf,Nat.reduceAdd,wS,reduceCtorEq,aLt,AB,iZ,qN,fH,t2,t5,t6,g0,f1,f3,cG,hg2,hjk,k1,k2,hs.idx,hix,hpf,hcl,a5',a2',ks,hu,hux,hwj,Int.toNat_natCast,Nat.mul_one,Nat.zero_add]
  exact ⟨j+1,by show _-_<_-_;omega,_,_,_,_,v',_,rfl,by simp +decide only [↓ aA,aE,aB,t2],by simp +decide only [↓ aA,aE,aB],by simp +decide only [↓ aA,aE,aB],(a3 n0 (Nat.lt_succ_self _)).trans g0,Nat.le_trans hn a2,a4 n0 (Nat.le_succ _) hlow,a1,hW.next hRj hgm (h.a.lt)⟩
 ·obtain rfl:j=R.length:=Nat.le_antisymm hjl hge
  have k1:(((R.length:Nat):Int)<((R.length:Nat):Int))=False:=eq_false (by omega)
  have hfin:DJ R os.els.length=bC os ts k:=by
   refine List.filter_congr fun x _=>?_
   rw [decide_eq_decide,hW.fin]
   exact ⟨fun ⟨r,hr,hw⟩=>by obtain rfl:=List.mem_singleton.1 hr;exact hw,fun hw=>⟨_,List.mem_singleton.2 rfl,hw⟩⟩
  rw [<-hfin]
  simp +contextual +decide (maxSteps:=1000000) only [↓ wP,wQ,tf,Nat.reduceAdd,wS,reduceCtorEq,t2,t5,t6,k1,g0,f1]
  have hrw:RowN ⟨n,low,o⟩ (.sl id2 g2 0 R.length c2) R:=RowN.acc hA0
  refine aQ (fun i e=>∃ t n' low o' a,e=⟨43,none,34,t,[],⟨n',low,o'⟩,.no⟩/\t.val 2=.ptr n0 0 0/\t.val 5=.sl id2 g2 0 R.length c2/\t.val 7=a/\t.val 8=.int .i64 (i:Nat)/\n<=n'/\n0<=low/\(∀ id,id<n->o'.get id=o.get id)/\AccI n a n' o' (bB (DJ R i))/\i<=os.els.length) (fun i=>os.els.length-i) 0
   ⟨_,_,_,_,.nils,rfl,by simp +decide only [↓ aA,aE,aB,t2],by simp +decide only [↓ aA,aE,aB,t5],by simp +decide only [↓ aA,aE,aB],by simp +decide only [↓ aA,aE,aB];rfl,Nat.le_refl _,hlow,fun _ _=>rfl,.inl ⟨rfl,rfl⟩,Nat.zero_le _⟩ ?_
  clear t2 t5 t6 hlow k1
  rintro i _ ⟨t,n',low',o',a,rfl,t2,t5,t7,t8,hn',hlow,hold,hA,hi⟩
  have g0':=(hold n0 (by omega)).trans g0
  have f1':=gU (show n0<n' by omega)
  have hca:=hA.cell
  rcases Nat.lt_or_ge i os.els.length with hlt | hge
  ·have hr':∀ {low:Nat},RowN ⟨n',low,o'⟩ (.sl id2 g2 0 R.length c2) R:=fun {low}=>hrw.keep fun id x hx=>by
    have hid:id<n:=Sto.get_lt hx
    rw [Sto.get_mk hid]at hx
    rw [Sto.get_mk (Nat.lt_of_lt_of_le hid hn'),hold id hid];exact hx
   have hli:∀ {low:Nat},orcL [bJ 73 (LY os ts us is no),bJ 74 (RRef (n0+1)),bJ 75 sV] 75 [.sl id2 g2 0 R.length c2,.int .i64 (i:Nat)] ⟨n',low,o'⟩=some (.ret (.bool (decide (i∈R))) none):=fun {low}=>uC hr' (by omega) i []
   have k1:(((i:Nat):Int)<((os.els.length:Nat):Int))=True:=eq_true (by omega)
   have hw:IntKind.i64.wrap ((i:Int)+1)=((i+1:Nat):Int):=by rw [IntWalk.i64_in _ (by omega)];rfl
   have hsn:DJ R (i+1)=DJ R i++(if decide (i∈R)=true then [i] else []):=xN
   have s1:∀ {a:AV},[AV.int .i64 0].set (0*1) a=[a]:=rfl
   have hSl:=TB R i
   by_cases hp:i∈R
   ·rw [decide_eq_true hp]at hli hsn
    rw [if_pos rfl]at hsn
    have hA':AccI n a (n'+1) (o'.set n' (aU 0 [.int .i64 (i:Nat)])) _:=hA.keep (Nat.le_succ n') fun id _ h2=>Tr.get_set_ne _ _ (by omega)
    obtain ⟨v',n2,low2,o2,r1,r2,r3,r4,r5⟩:=hA'.app (low:=low') (by_:=8) lC (x:=.int .i64 (i:Nat)) rfl (by omega) (by rw [bE];omega)
    simp +contextual +decide (maxSteps:=1000000) only [↓ wP,wQ,tf,Nat.reduceAdd,wS,reduceCtorEq,t2,t5,t7,t8,g0',f1',hso.len,hca,hli,k1,hw,s1,r1,cG]
    refine ⟨i+1,by show _-_<_-_;omega,_,_,_,_,v',rfl,by simp +decide only [↓ aA,aE,aB,t2],by simp +decide only [↓ aA,aE,aB,t5],by simp +decide only [↓ aA,aE,aB],by simp +decide only [↓ aA,aE,aB],by omega,r5 n0 (by omega) hlow,fun id hid=>?_,?_,hlt⟩
    ·rw [r4 id hid,Tr.get_set_ne _ _ (by omega)];exact hold id hid
    ·rw [hsn,iW];exact r2
   ·rw [decide_eq_false hp]at hli hsn
    rw [if_neg (by decide),List.append_nil]at hsn
    simp +contextual +decide (maxSteps:=1000000) only [↓ wP,wQ,tf,Nat.reduceAdd,wS,reduceCtorEq,t2,t5,t7,t8,g0',f1',hso.len,hca,hli,k1,hw,cG]
    exact ⟨i+1,by show _-_<_-_;omega,_,_,_,_,a,rfl,by simp +decide only [↓ aA,aE,aB,t2],by simp +decide only [↓ aA,aE,aB,t5],by simp +decide only [↓ aA,aE,aB,t7],by simp +decide only [↓ aA,aE,aB],hn',hlow,hold,by rw [hsn];exact hA,hlt⟩
  ·obtain rfl:i=os.els.length:=Nat.le_antisymm hi hge
   have k1:(((os.els.length:Nat):Int)<((os.els.length:Nat):Int))=False:=eq_false (Int.lt_irrefl _)
   simp +contextual +decide (maxSteps:=1000000) only [↓ wP,wQ,tf,Nat.reduceAdd,wS,reduceCtorEq,t2,t5,t7,t8,g0',f1',hso.len,k1,cG]
   refine ⟨rfl,_,rfl,?_⟩
   simp +contextual +decide (maxSteps:=1000000) only [↓ wP,wQ,tf,Nat.reduceAdd,wS,reduceCtorEq]
   rw [zS]
   have hA2:AccI n0 a n' o' (bB (DJ R os.els.length)):=hA.imp (fun h=>h) fun ⟨h0,id,g,c,e1,e2,e3,e4,e5⟩=>⟨h0,id,g,c,e1,e2,e3,by omega,e5⟩
   exact ⟨hlow,AccI.frzN hA2 (fun x hx=>(iX x hx).1) fun x hx=>(iX x hx).2⟩
end
end
end Go.Proofs.YthakciolcdlphaaGreat
