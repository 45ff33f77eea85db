/-
  Isles, by the reference.
-/
import Derived.Test.YtdipddlhenoglaaGreatZq
set_option linter.unusedVariables false
set_option linter.unusedSimpArgs false
namespace Go.Proofs.YtdipddlhenoglaaGreat
open Go.Abs Go Go.Abs.TryzF
noncomputable section
set_option maxRecDepth 10000
section
variable {os ts us is no:AV}
theorem MV (hm:ts.els.length<=120) {i:Nat} (hi:i<ts.els.length):(fF os ts i)[0]?=some (cW (cN os ts) i):=by
 have hp:decide (cW (cN os ts) i=cW (cN os ts) i)=true:=decide_eq_true rfl
 obtain ⟨c1,c2,c3⟩:=yD (p:=fun j=>decide (cW (cN os ts) j=cW (cN os ts) i)) hi hp
 have hne:fF os ts i≠[]:=fun e=>by
  have:i∈fF os ts i:=List.mem_filter.2 ⟨List.mem_range.2 hi,hp⟩
  rw [e]at this;cases this
 have hh:(fF os ts i)[0]?=some ((fF os ts i).headD i):=by
  cases h:fF os ts i with
  | nil=>exact (hne h).elim
  | cons a l=>rfl
 rw [hh]
 change decide (cW (cN os ts) ((fF os ts i).headD i)=cW (cN os ts) i)=true at c1
 change (fF os ts i).headD i<ts.els.length at c2
 change ∀ j,j<ts.els.length->decide (cW (cN os ts) j=cW (cN os ts) i)=true->(fF os ts i).headD i<=j at c3
 generalize (fF os ts i).headD i=c at *
 have k1:=(FT hm c2 hi).1 (of_decide_eq_true c1)
 obtain ⟨l1,l2,l3⟩:=sI (R:=mO os ts) (sh:=DM os) hi
 rw [<-FS hm hi]at l1 l2 l3
 have h1:=l3 c c2 k1
 have h2:=c3 _ l2 (decide_eq_true ((FT hm l2 hi).2 l1))
 rw [Nat.le_antisymm h2 h1]
theorem MW {n:Nat} (h:ts.els.length<=n):oY os ts n=oY os ts ts.els.length:=by
 obtain ⟨k,rfl⟩:∃ k,n=ts.els.length+k:=⟨n-ts.els.length,by omega⟩
 clear h
 induction k with
 | zero=>rfl
 | succ k ih=>
   rw [<-Nat.add_assoc,oY,kA,decide_eq_false (fun h=>by omega),if_neg (by decide),List.append_nil]
   exact ih
abbrev FQ (os ts us is no:AV):List AV->Option AV:=VJ (fun w a t=>w=dY os ts us is no/\a=uT os ts/\∃ k:Nat,k<ts.els.length/\t=.int .i64 (k:Nat)) fun _ _ t=>bF (fF os ts t.num.toNat)
theorem TN (h:GW os ts us is no):Abs.Ok Tryz.prog 39 (FQ os ts us is no):=ok3 fun w a t ⟨e1,e2,k,hk,e3⟩=>by
 subst e1;subst e2;subst e3;exact YS h hk
set_option maxHeartbeats 8000000 in
theorem TO (h:GW os ts us is no):Abs.Returns Tryz.prog 12 [dY os ts us is no] (tZ os ts true):=by
 have huw:=h.g.und
 obtain ⟨c0,c1,c2,c3,c4⟩:=h.g.cells
 have hm:ts.els.length<=120:=Nat.le_trans h.l h.ol
 have hst:Sl ts ts.els:=by
  obtain ⟨xs,hs,_⟩:=h.g.ts
  rw [hs.els];exact hs
 have hca:(uT os ts).isCell=true:=by unfold uT;split<;>rfl
 have s1:∀ {a:AV},[AV.nils].set (0*1) a=[a]:=rfl
 refine bW (L:=[eT 38 [dY os ts us is no] (uT os ts),ent 39 (FQ os ts us is no)]) (elist_cons (bG (aEq h)) (elist_cons (TN h).ent aG)) aM (by kernel_rfl) Tryz.func12 Tryz.ntmps12 Tryz.results12 rfl rfl (aA huw.und aF) ?_
 simp +contextual +decide (maxSteps:=1000000) only [↓ wP,wQ,tf,Nat.reduceAdd,wS,reduceCtorEq,c0,c1,c2,c3,c4,eC,hca]
 refine aP (fun i e=>∃ t n low o v,e=⟨30,none,12,t,[],⟨n,low,o⟩,.no⟩/\t.val 1=.ptr 0 0 0/\t.val 3=v/\t.val 4=uT os ts/\t.val 5=.int .i64 (i:Nat)/\o.get 0=some (aX 0 [os,ts,us,is,no])/\1<=n/\AccI 1 v n o (cB os ts i)/\i<=ts.els.length) (fun i=>ts.els.length-i) 0
  ⟨_,_,_,_,.nils,rfl,by simp +decide only [↓ aB,aE,aC],by simp +decide only [↓ aB,aE,aC],by simp +decide only [↓ aB,aE,aC],by simp +decide only [↓ aB,aE,aC];rfl,by simp +decide only [↓ aB,aJ,aC,ne_eq],Nat.le_refl _,.inl ⟨rfl,rfl⟩,Nat.zero_le _⟩ ?_
 rintro i _ ⟨t,n,low,o,v,rfl,t1,t3,t4,t5,g0,hn,hA,hi⟩
 have f0:=lO (show 0<n by omega)
 rcases Nat.lt_or_ge i ts.els.length with hlt | hge
 ·have k1:(((i:Nat):Int)<((ts.els.length:Nat):Int))=True:=eq_true (by omega)
  have hw1:IntKind.i64.wrap ((i:Int)+1)=((i+1:Nat):Int):=by rw [IntWalk.i64_in _ (by omega)];rfl
  have hsn:oY os ts (i+1)=oY os ts i++(if decide (i<ts.els.length/\cW (cN os ts) i=i)=true then [i] else []):=kA
  have hRl:(cB os ts i).length<=i:=by rw [cB,List.length_map];exact uA os ts i
  have hcv:=hA.cell
  have hiv:FQ os ts us is no [.agg [os,ts,us,is,no],uT os ts,.int .i64 (i:Nat)]=some (bF (fF os ts i)):=by
   rw [FQ,kS (c:=.int .i64 (i:Nat)) ⟨rfl,rfl,i,hlt,rfl⟩];rfl
  have hil:=nW (l:=fF os ts i) (by have:=sG os ts i;omega)
  have hi0:=fun {q:IntKind} {d:Option AV}=>jV (k:=1) (xs:=aQ (fF os ts i)) (n:=0) (by omega) (fK (MV hm hlt)) rfl (q:=q) (d:=d)
  by_cases hp:cW (cN os ts) i=i
  ·rw [decide_eq_true ⟨hlt,hp⟩,if_pos rfl]at hsn
   have hA':AccI 1 v (n+1) (o.set n (aX 0 [bF (fF os ts i)])) _:=hA.keep (Nat.le_succ n) fun id _ h2=>Tr.get_set_ne _ _ (by omega)
   obtain ⟨v',n',low',o',q1,q2,q3,q4,_⟩:=hA'.app (low:=low) (by_:=24) (List.all_eq_true.2 fun x hx=>(iA h x hx).1) (x:=bF (fF os ts i)) cD (by omega) (by omega)
   rw [hp]at hi0
   simp +contextual +decide (maxSteps:=1000000) only [↓ wP,wQ,tf,Nat.reduceAdd,wS,reduceCtorEq,t1,t3,t4,t5,g0,f0,dA,k1,hw1,s1,q1,hcv,hiv,lF,hst.len,hil.idx,hi0,cD]
   refine ⟨i+1,by show _-_<_-_;omega,_,_,_,_,v',rfl,by simp +decide only [↓ aB,aE,aC,t1],by simp +decide only [↓ aB,aE,aC],by simp +decide only [↓ aB,aE,aC,t4],by simp +decide only [↓ aB,aE,aC],?_,by omega,?_,hlt⟩
   ·rw [q4 0 (by omega),Tr.get_set_ne _ _ (by omega)];exact g0
   ·rw [cB,hsn,List.map_append];exact q2
  ·rw [decide_eq_false (fun hh=>hp hh.2),if_neg (by decide),List.append_nil]at hsn
   have kp:(((cW (cN os ts) i:Nat):Int)=((i:Nat):Int))=False:=eq_false fun e=>hp (by omega)
   simp +contextual +decide (maxSteps:=1000000) only [↓ wP,wQ,tf,Nat.reduceAdd,wS,reduceCtorEq,t1,t3,t4,t5,g0,f0,dA,k1,hw1,hcv,hiv,lF,hst.len,hil.idx,hi0,cD,kp]
   exact ⟨i+1,by show _-_<_-_;omega,_,_,_,_,v,rfl,by simp +decide only [↓ aB,aE,aC,t1],by simp +decide only [↓ aB,aE,aC,t3],by simp +decide only [↓ aB,aE,aC,t4],by simp +decide only [↓ aB,aE,aC],g0,hn,by rw [cB,hsn];exact hA,hlt⟩
 ·obtain rfl:i=ts.els.length:=Nat.le_antisymm hi hge
  simp +contextual +decide (maxSteps:=1000000) only [↓ wP,wQ,tf,Nat.reduceAdd,wS,reduceCtorEq,t1,t3,t5,bE,g0,f0,hst.len]
  have e:cB os ts 120=cB os ts ts.els.length:=by rw [cB,cB,MW hm]
  rw [tZ,if_pos rfl,e]
  exact hA.frz (fun x hx=>(iA h x hx).1) fun x hx=>(iA h x hx).2
def aIe (L:List AV):Prop:=∀ x∈L,∃ l:List Nat,l.length<=1000/\x=bF l
theorem oW {l:List Nat} (h:l.length<=1000):gG (bF l):=⟨_,nW h,xE⟩
theorem qNums_ok:Abs.Ok Tryz.prog 14 jT:=ok2 fun a b ⟨ha,hb⟩=>by
 have e1:jT [a,b]=some (.bool (qI a.els b.els)):=sg2_eq ⟨ha,hb⟩
 refine aH (L:=[ent 40 jT]) (elist_cons rsame5_ok.ent aG) aM (by kernel_rfl) Tryz.func14 Tryz.ntmps14 Tryz.results14 rfl rfl (aA (aU _ ha).1.und (aA (aU _ hb).1.und aF)) aL ?_
 simp +contextual +decide (maxSteps:=1000000) only [↓ wP,wQ,tf,Nat.reduceAdd,wS,reduceCtorEq,e1]
set_option maxHeartbeats 4000000 in
theorem DL {L:List AV} (hL:aIe L) (hl:L.length<=1000):Abs.Returns Tryz.prog 11 [bL L,bL L] (.bool true):=by
 have hsl:Sl (bL L) L:=lW (by omega)
 have hua:UnderE 0 (bL L):=nM hsl fun x hx=>by
  obtain ⟨l,hl,rfl⟩:=hL x hx
  exact iJ hl
 have hca:(bL L).isCell=true:=by unfold bL;split<;>rfl
 refine aH (L:=[ent 14 jT]) (elist_cons qNums_ok.ent aG) (fun r=>(bif Nat.beq r 6 then [8] else [],[])) (by kernel_rfl) Tryz.func11 Tryz.ntmps11 Tryz.results11 rfl rfl (aA hua.und (aA hua.und aF)) aL ?_
 simp +contextual +decide (maxSteps:=1000000) only [↓ wP,wQ,tf,Nat.reduceAdd,wS,reduceCtorEq,hca,hsl.len]
 refine aP (fun i e=>∃ t,e=⟨27,none,11,t,[],⟨0,0,Tr.leaf⟩,.no⟩/\t.val 0=bL L/\t.val 1=bL L/\t.val 5=.int .i64 (i:Nat)/\i<=L.length) (fun i=>L.length-i) 0
  ⟨_,rfl,by simp +decide only [↓ aB,aE,aC],by simp +decide only [↓ aB,aE,aC],by simp +decide only [↓ aB,aE,aC];rfl,Nat.zero_le _⟩ ?_
 rintro i _ ⟨t,rfl,t0,t1,t5,hi⟩
 rcases Nat.lt_or_ge i L.length with hlt | hge
 ·have hgi:=List.getElem?_eq_getElem hlt
  obtain ⟨l,hll,e⟩:=hL _ (List.getElem_mem hlt)
  rw [e]at hgi
  have hix:=fun {q:IntKind} {d:Option AV}=>jV (k:=1) (xs:=L) (n:=(i:Nat)) (by omega) hgi AI (q:=q) (d:=d)
  have e1:jT [bF l,bF l]=some (.bool true):=by
   have:jT [bF l,bF l]=_:=sg2_eq ⟨oW hll,oW hll⟩
   rw [this,AU]
  have k1:(((i:Nat):Int)<((L.length:Nat):Int))=True:=eq_true (by omega)
  have hw1:IntKind.i64.wrap ((i:Int)+1)=((i+1:Nat):Int):=by rw [IntWalk.i64_in _ (by omega)];rfl
  simp +contextual +decide (maxSteps:=1000000) only [↓ wP,wQ,tf,Nat.reduceAdd,wS,reduceCtorEq,t0,t1,t5,hsl.len,hsl.idx,hix,e1,k1,hw1,cD]
  exact ⟨i+1,by show _-_<_-_;omega,_,rfl,by simp +decide only [↓ aB,aE,aC,t0],by simp +decide only [↓ aB,aE,aC,t1],by simp +decide only [↓ aB,aE,aC],hlt⟩
 ·obtain rfl:i=L.length:=Nat.le_antisymm hi hge
  have k1:(((L.length:Nat):Int)<((L.length:Nat):Int))=False:=eq_false (Int.lt_irrefl _)
  simp +contextual +decide (maxSteps:=1000000) only [↓ wP,wQ,tf,Nat.reduceAdd,wS,reduceCtorEq,t0,t1,t5,hsl.len,k1]
end
section
variable {p os ts us is no:AV}
def uS (ts:AV) (n:Int):Bool:=decide (0<=n)&&decide (n<((ts.els.length:Nat):Int))
theorem YH (hg:WG os ts us is no) (n:Int):Abs.Returns Tryz.prog 13 [dY os ts us is no,.int .i64 n] (.bool (uS ts n)):=by
 obtain ⟨c0,c1,c2,c3,c4⟩:=hg.cells
 have hst:Sl ts ts.els:=by
  obtain ⟨xs,hs,_⟩:=hg.ts
  rw [hs.els];exact hs
 refine aH (L:=[]) aG aM (by kernel_rfl) Tryz.func13 Tryz.ntmps13 Tryz.results13 rfl rfl (aA hg.und.und (aA aS aF)) aL ?_
 by_cases h0:0<=n
 ·have e:uS ts n=decide (n<((ts.els.length:Nat):Int)):=by rw [uS,decide_eq_true h0,Bool.true_and]
  simp +contextual +decide (maxSteps:=1000000) only [↓ wP,wQ,tf,Nat.reduceAdd,wS,reduceCtorEq,c0,c1,c2,c3,c4,hst.len,h0,e]
 ·have e:uS ts n=false:=by rw [uS,decide_eq_false h0,Bool.false_and]
  simp +contextual +decide (maxSteps:=1000000) only [↓ wP,wQ,tf,Nat.reduceAdd,wS,reduceCtorEq,c0,c1,c2,c3,c4,hst.len,h0,e]
def TP:List AV->Int->Int
 | [],z=>z
 | o::l,z=>TP l (IntKind.i64.wrap (IntKind.i64.wrap (z+1)+(((o.fld 3).els.length:Nat):Int)))
def FR (p os ts us is:AV):Bool:=if (dH (p.fld 0).els (p.fld 1).els (p.fld 3).els&&iK os.els ts.els us.els is.els)=true then decide (400<TP os.els 0) else true
theorem TQ (hp:fM p) (hg:WG os ts us is no):Abs.Returns Tryz.prog 6 [p,dY os ts us is no] (.bool (FR p os ts us is)):=by
 have hup:=(cE p hp).1
 obtain ⟨c0,c1,c2,c3,c4⟩:=hg.cells
 have e1:GG [p]=some (.bool (dH (p.fld 0).els (p.fld 1).els (p.fld 3).els)):=cT hp
 have e2:GH [.agg [os,ts,us,is,no]]=some (.bool (iK os.els ts.els us.els is.els)):=cT hg.wd
 refine aH (L:=[ent 25 GG,ent 26 GH]) (elist_cons smallPV_ok.ent (elist_cons smallWV_ok.ent aG)) aM (by kernel_rfl) Tryz.func6 Tryz.ntmps6 Tryz.results6 rfl rfl (aA hup.und (aA hg.und.und aF)) aL ?_
 have hq:∃ ns fs mm cs,p=.agg [ns,fs,mm,cs]/\ns.isCell=true/\fs.isCell=true/\mm.isCell=true/\cs.isCell=true:=by
  obtain ⟨ns,fs,mm,cs,rfl,a1,a2,a3,a4⟩:=hp
  exact ⟨ns,fs,mm,cs,rfl,(dM _ a1).2,(aU _ a2).2,(tu_int _ a3).2,(dN _ a4).2⟩
 unfold FR
 cases k1:dH (p.fld 0).els (p.fld 1).els (p.fld 3).els with
 | false=>
   rw [k1]at e1
   obtain ⟨ns,fs,mm,cs,rfl,q1,q2,q3,q4⟩:=hq
   simp +contextual +decide (maxSteps:=1000000) only [↓ wP,wQ,tf,Nat.reduceAdd,wS,reduceCtorEq,c0,c1,c2,c3,c4,q1,q2,q3,q4,e1,Bool.false_and]
 | true=>
 rw [k1]at e1
 cases k2:iK os.els ts.els us.els is.els with
 | false=>
   rw [k2]at e2
   obtain ⟨ns,fs,mm,cs,rfl,q1,q2,q3,q4⟩:=hq
   simp +contextual +decide (maxSteps:=1000000) only [↓ wP,wQ,tf,Nat.reduceAdd,wS,reduceCtorEq,c0,c1,c2,c3,c4,q1,q2,q3,q4,e1,e2,Bool.and_false]
 | true=>
 rw [k2]at e2
 obtain ⟨xs,hs,hTos⟩:=hg.os
 rw [Bool.and_self,if_pos rfl]
 obtain ⟨ns,fs,mm,cs,rfl,q1,q2,q3,q4⟩:=hq
 simp +contextual +decide (maxSteps:=1000000) only [↓ wP,wQ,tf,Nat.reduceAdd,wS,reduceCtorEq,c0,c1,c2,c3,c4,q1,q2,q3,q4,e1,e2,hs.len]
 refine aP (fun i e=>∃ t z,e=⟨34,none,6,t,[],⟨2,0,(Tr.leaf.set 0 (aX 0 [ns,fs,mm,cs])).set 1 (aX 0 [os,ts,us,is,no])⟩,.no⟩/\t.val 3=.ptr 1 0 0/\t.val 5=.int .i64 z/\t.val 6=.int .i64 (i:Nat)/\i<=xs.length/\TP os.els 0=TP (xs.drop i) z) (fun i=>xs.length-i) 0
  ⟨_,0,rfl,by simp +decide only [↓ aB,aE,aC],by simp +decide only [↓ aB,aE,aC],by simp +decide only [↓ aB,aE,aC];rfl,Nat.zero_le _,by rw [hs.els];rfl⟩ ?_
 rintro i _ ⟨t,z,rfl,t3,t5,t6,hi,hq⟩
 rcases Nat.lt_or_ge i xs.length with hlt | hge
 ·obtain ⟨x,hDx,hm,hgx,hd,hix,hw,hcl⟩:=bK (k:=4) (fun x h=>tk_ob.len h) hTos hs.2 hlt
  rw [hd,TP]at hq
  obtain ⟨a,b,c,d,rfl,⟨k,rfl⟩,⟨m,rfl⟩,h1,h2⟩:=hDx
  obtain ⟨ys,hys,_⟩:=h2
  rw [show (AV.agg [.int .i64 k,.int .i64 m,c,d]).fld 3=d from rfl,hys.els]at hq
  have hcd:=hys.cell
  simp +contextual +decide (maxSteps:=1000000) only [↓ wP,wQ,tf,Nat.reduceAdd,wS,reduceCtorEq,t3,t5,t6,hs.len,hs.idx,hix,hcl,hw,hys.len,hcd]
  exact ⟨i+1,by show _-_<_-_;omega,_,_,rfl,by simp +decide only [↓ aB,aE,aC,t3],by simp +decide only [↓ aB,aE,aC],by simp +decide only [↓ aB,aE,aC],hlt,hq⟩
 ·obtain rfl:i=xs.length:=Nat.le_antisymm hi hge
  rw [List.drop_length,TP]at hq
  have k1:(((xs.length:Nat):Int)<((xs.length:Nat):Int))=False:=eq_false (Int.lt_irrefl _)
  simp +contextual +decide (maxSteps:=1000000) only [↓ wP,wQ,tf,Nat.reduceAdd,wS,reduceCtorEq,t3,t5,t6,hs.len,k1,hq]
theorem YI (hp:fM p) (hm:SmP p):Abs.Returns Tryz.prog 37 [p] (.bool (xN p)):=by
 have e1:AT [p]=some (.bool (xN p)):=cT ⟨hp,hm⟩
 refine aH (L:=[ent 85 AT]) (elist_cons rformedV_ok.ent aG) aM (by kernel_rfl) Tryz.func37 Tryz.ntmps37 Tryz.results37 rfl rfl (aA (cE p hp).1.und aF) aL ?_
 obtain ⟨ns,fs,mm,cs,rfl,a1,a2,a3,a4⟩:=hp
 have q1:=(dM _ a1).2
 have q2:=(aU _ a2).2
 have q3:=(tu_int _ a3).2
 have q4:=(dN _ a4).2
 simp +contextual +decide (maxSteps:=1000000) only [↓ wP,wQ,tf,Nat.reduceAdd,wS,reduceCtorEq,q1,q2,q3,q4,e1]
theorem YJ (hp:fM p) (hm:SmP p) (hg:WG os ts us is no):Abs.Returns Tryz.prog 10 [p,dY os ts us is no] (.bool (fL p&&nI p (dY os ts us is no))):=by
 rw [ZP hp]
 have e2:GY [p,.agg [os,ts,us,is,no]]=some (.bool (ZO p (dY os ts us is no))):=sg2_eq ⟨hp,hg.wd⟩
 obtain ⟨c0,c1,c2,c3,c4⟩:=hg.cells
 have hqp:=YI hp hm
 refine aH (L:=[eT 37 [p] (.bool (xN p)),ent 19 GY]) (elist_cons (bG hqp) (elist_cons rWorld_ok.ent aG)) aM (by kernel_rfl) Tryz.func10 Tryz.ntmps10 Tryz.results10 rfl rfl (aA (cE p hp).1.und (aA hg.und.und aF)) aL ?_
 clear hqp
 obtain ⟨ns,fs,mm,cs,rfl,a1,a2,a3,a4⟩:=hp
 have q1:=(dM _ a1).2
 have q2:=(aU _ a2).2
 have q3:=(tu_int _ a3).2
 have q4:=(dN _ a4).2
 generalize ZO (.agg [ns,fs,mm,cs]) (dY os ts us is no)=B at *
 cases k:xN (.agg [ns,fs,mm,cs]) with
 | false=>
   rw [Bool.false_and]
   simp +contextual +decide (maxSteps:=1000000) only [↓ wP,wQ,tf,Nat.reduceAdd,wS,reduceCtorEq,c0,c1,c2,c3,c4,q1,q2,q3,q4,eC,lF,e2]
 | true=>
   rw [Bool.true_and]
   simp +contextual +decide (maxSteps:=1000000) only [↓ wP,wQ,tf,Nat.reduceAdd,wS,reduceCtorEq,c0,c1,c2,c3,c4,q1,q2,q3,q4,eC,lF,e2]
end
section
variable {p os ts us is no:AV}
theorem aLw (hg:WG os ts us is no) (hs:iK os.els ts.els us.els is.els=true) (hb:(fL p&&nI p (dY os ts us is no))=true):GW os ts us is no:=by
 rw [Bool.and_eq_true]at hb
 exact aMb hg hs hb.2
theorem aJa (h1:dH (p.fld 0).els (p.fld 1).els (p.fld 3).els=true):SmP p:=by
 simp only [dH,Bool.and_eq_true,decide_eq_true_eq]at h1
 show _<=1000;omega
set_option maxHeartbeats 4000000 in
theorem JC (hk:Abs.Returns Tryz.prog 7 [] (.bool true)) (hp:fM p) (hg:WG os ts us is no) {nn:AV} (hn:cM nn):Abs.Returns Tryz.prog 3 [p,dY os ts us is no,nn] (.bool true):=by
 obtain ⟨n,rfl⟩:=hn
 have hup:=(cE p hp).1
 obtain ⟨c0,c1,c2,c3,c4⟩:=hg.cells
 have hu:=aA hup.und (aA hg.und.und (aA (show UnderE 0 (AV.int .i64 n) from ⟨1,rfl⟩).und aF))
 have hq:∃ ns fs mm cs,p=.agg [ns,fs,mm,cs]/\ns.isCell=true/\fs.isCell=true/\mm.isCell=true/\cs.isCell=true:=by
  obtain ⟨ns,fs,mm,cs,rfl,a1,a2,a3,a4⟩:=hp
  exact ⟨ns,fs,mm,cs,rfl,(dM _ a1).2,(aU _ a2).2,(tu_int _ a3).2,(dN _ a4).2⟩
 have hla:=TQ hp hg
 have x1:∀ {f h:FuncId} {a:List AV} {v:AV} {L:List mN} {args:List AV} {s:Sto},h≠f->orcL (eT h a v::L) f args s=orcL L f args s:=lF
 have x2:∀ {f:FuncId} {a:List AV} {v:AV} {L:List mN} {s:Sto},orcL (eT f a v::L) f a s=some (.ret v none):=eC
 cases kl:FR p os ts us is with
 | true=>
   rw [kl]at hla
   refine aH (L:=[eT 6 [p,dY os ts us is no] (.bool true),eT 7 [] (.bool true)]) (elist_cons (bG hla) (elist_cons (bG hk) aG)) aM (by kernel_rfl) Tryz.func3 Tryz.ntmps3 Tryz.results3 rfl rfl hu aL ?_
   clear hla
   obtain ⟨ns,fs,mm,cs,rfl,q1,q2,q3,q4⟩:=hq
   simp +contextual +decide (maxSteps:=1000000) only [↓ wP,wQ,tf,Nat.reduceAdd,wS,reduceCtorEq,c0,c1,c2,c3,c4,q1,q2,q3,q4,x1,x2]
 | false=>
 rw [kl]at hla
 have hsm:dH (p.fld 0).els (p.fld 1).els (p.fld 3).els=true/\iK os.els ts.els us.els is.els=true:=by
  unfold FR at kl
  split at kl
  ·rename_i h;rw [Bool.and_eq_true]at h;exact h
  ·cases kl
 have hgw:=aLw (p:=p) hg hsm.2
 have hfi:=YJ hp (aJa hsm.1) hg
 have hre:=ZC hp hg hgw n
 have his:=YU hp hg hgw
 cases kf:(fL p&&nI p (dY os ts us is no)) with
 | false=>
   have ka:zJ p (dY os ts us is no) n=false:=by rw [zJ,kf,Bool.false_and]
   rw [kf]at hfi his
   rw [ka]at hre
   refine aH (L:=[eT 6 [p,dY os ts us is no] (.bool false),eT 7 [] (.bool true),eT 8 [p,dY os ts us is no,.int .i64 n] (.tuple [nG os ts false n,gU false]),eT 9 [p,dY os ts us is no] (.tuple [tZ os ts false,gU false]),eT 10 [p,dY os ts us is no] (.bool false)])
    (elist_cons (bG hla) (elist_cons (bG hk) (elist_cons (bG hre) (elist_cons (bG his) (elist_cons (bG hfi) aG))))) aM (by kernel_rfl) Tryz.func3 Tryz.ntmps3 Tryz.results3 rfl rfl hu aL ?_
   clear hla hfi hre his hgw
   obtain ⟨ns,fs,mm,cs,rfl,q1,q2,q3,q4⟩:=hq
   have r1:nG os ts false n=.nils:=rfl
   have r2:tZ os ts false=.nils:=rfl
   simp +contextual +decide (maxSteps:=1000000) only [↓ wP,wQ,tf,Nat.reduceAdd,wS,reduceCtorEq,c0,c1,c2,c3,c4,q1,q2,q3,q4,x1,x2,r1,r2,gU]
   done
 | true=>
   have hw:=hgw kf
   have hm:ts.els.length<=120:=Nat.le_trans hw.l hw.ol
   have ka:zJ p (dY os ts us is no) n=uS ts n:=by
    rw [zJ,kf,Bool.true_and,uS,inR]
    congr 1
    rw [decide_eq_decide]
    show n<=((ts.els.length:Nat):Int)-1↔_
    omega
   rw [kf]at hfi his
   rw [ka]at hre
   have hqi:=TO hw
   have hta:=YH hg n
   have hil:(cB os ts 120).length<=1000:=by rw [cB,List.length_map];exact Nat.le_trans (uA os ts 120) (by omega)
   have hia:tZ os ts true=bL (cB os ts 120):=rfl
   have hnl:aIe (cB os ts 120):=fun x hx=>by
    obtain ⟨i,_,rfl⟩:=List.mem_map.1 hx
    exact ⟨_,Nat.le_trans (sG os ts i) (by omega),rfl⟩
   have hsl:=DL hnl hil
   rw [hia]at his hqi
   have hci:(bL (cB os ts 120)).isCell=true:=by unfold bL;split<;>rfl
   cases kt:uS ts n with
   | false=>
     rw [kt]at hre hta
     refine aH (L:=[eT 6 [p,dY os ts us is no] (.bool false),eT 7 [] (.bool true),eT 8 [p,dY os ts us is no,.int .i64 n] (.tuple [nG os ts false n,gU false]),eT 9 [p,dY os ts us is no] (.tuple [bL (cB os ts 120),gU true]),eT 10 [p,dY os ts us is no] (.bool true),eT 12 [dY os ts us is no] (bL (cB os ts 120)),eT 11 [bL (cB os ts 120),bL (cB os ts 120)] (.bool true),eT 13 [dY os ts us is no,.int .i64 n] (.bool false)])
      (elist_cons (bG hla) (elist_cons (bG hk) (elist_cons (bG hre) (elist_cons (bG his) (elist_cons (bG hfi) (elist_cons (bG hqi) (elist_cons (bG hsl) (elist_cons (bG hta) aG)))))))) aM (by kernel_rfl) Tryz.func3 Tryz.ntmps3 Tryz.results3 rfl rfl hu aL ?_
     clear hla hfi hre his hgw hqi hta hsl
     obtain ⟨ns,fs,mm,cs,rfl,q1,q2,q3,q4⟩:=hq
     have r1:nG os ts false n=.nils:=rfl
     simp +contextual +decide (maxSteps:=1000000) only [↓ wP,wQ,tf,Nat.reduceAdd,wS,reduceCtorEq,c0,c1,c2,c3,c4,q1,q2,q3,q4,x1,x2,r1,gU,hci]
     done
   | true=>
     rw [kt]at hre hta
     simp only [uS,Bool.and_eq_true,decide_eq_true_eq]at kt
     obtain ⟨k,rfl⟩:∃ k:Nat,n=(k:Nat):=⟨n.toNat,by omega⟩
     have hkl:k<ts.els.length:=by omega
     have hqr:=ED hw hkl
     have hrl:(bX os.els (bS ts k)).length<=1000:=Nat.le_trans (jE _ _) (by have:=hw.ol;omega)
     have hra:nG os ts true (k:Nat)=bF (bX os.els (bS ts k)):=by rw [nG,if_pos rfl,Int.toNat_natCast]
     rw [hra]at hre
     have e1:jT [bF (bX os.els (bS ts k)),bF (bX os.els (bS ts k))]=some (.bool true):=by
      have:jT [bF (bX os.els (bS ts k)),bF (bX os.els (bS ts k))]=_:=sg2_eq ⟨oW hrl,oW hrl⟩
      rw [this,AU]
     generalize bF (bX os.els (bS ts k))=r at *
     refine aH (L:=[eT 6 [p,dY os ts us is no] (.bool false),eT 7 [] (.bool true),eT 8 [p,dY os ts us is no,.int .i64 (k:Nat)] (.tuple [r,gU true]),eT 9 [p,dY os ts us is no] (.tuple [bL (cB os ts 120),gU true]),eT 10 [p,dY os ts us is no] (.bool true),eT 12 [dY os ts us is no] (bL (cB os ts 120)),eT 11 [bL (cB os ts 120),bL (cB os ts 120)] (.bool true),eT 13 [dY os ts us is no,.int .i64 (k:Nat)] (.bool true),eT 15 [dY os ts us is no,.int .i64 (k:Nat)] r,ent 14 jT])
      (elist_cons (bG hla) (elist_cons (bG hk) (elist_cons (bG hre) (elist_cons (bG his) (elist_cons (bG hfi) (elist_cons (bG hqi) (elist_cons (bG hsl) (elist_cons (bG hta) (elist_cons (bG hqr) (elist_cons qNums_ok.ent aG)))))))))) aM (by kernel_rfl) Tryz.func3 Tryz.ntmps3 Tryz.results3 rfl rfl hu aL ?_
     clear hla hfi hre his hgw hqi hta hsl hqr
     obtain ⟨ns,fs,mm,cs,rfl,q1,q2,q3,q4⟩:=hq
     simp +contextual +decide (maxSteps:=1000000) only [↓ wP,wQ,tf,Nat.reduceAdd,wS,reduceCtorEq,c0,c1,c2,c3,c4,q1,q2,q3,q4,x1,x2,gU,hci,e1]
     done
end
end
end Go.Proofs.YtdipddlhenoglaaGreat
