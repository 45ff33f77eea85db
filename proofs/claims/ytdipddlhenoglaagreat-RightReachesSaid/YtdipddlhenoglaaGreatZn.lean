/-
  Isles, by the program.
-/
import Derived.Test.YtdipddlhenoglaaGreatZl
set_option linter.unusedVariables false
set_option linter.unusedSimpArgs false
namespace Go.Abs
noncomputable section
def AccI (lo:Nat) (v:AV) (n:Nat) (o:Tr AObj) (R:List AV):Prop:=(R=[]/\v=.nils)∨(R≠[]/\∃ id g c,v=.sl id g 0 R.length c/\(c=.room 1∨c=.is R.length)/\o.get id=some (aX g R)/\lo<=id/\id<n)
theorem AccI.cell {lo n:Nat} {v:AV} {o:Tr AObj} {R:List AV} (h:AccI lo v n o R):v.isCell=true:=by
 rcases h with ⟨_,rfl⟩ | ⟨_,_,_,_,rfl,_⟩<;>rfl
theorem AccI.keep {lo n n':Nat} {v:AV} {o o':Tr AObj} {R:List AV} (h:AccI lo v n o R) (hn:n<=n') (hk:∀ id,lo<=id->id<n->o'.get id=o.get id):AccI lo v n' o' R:=
 h.imp (fun h=>h) fun ⟨h0,id,g,c,h1,hc,h2,h3,h4⟩=>⟨h0,id,g,c,h1,hc,(hk id h3 h4).trans h2,h3,Nat.lt_of_lt_of_le h4 hn⟩
theorem AccI.app {lo n low by_:Nat} {v x:AV} {o:Tr AObj} {R:List AV} (h:AccI lo v n o R) (hR:R.all AV.isCell=true) (hx:x.isCell=true) (hl:lo<=n) (hr:(2*(R.length+1)+1024)*by_<=281474976710656/\R.length+1<4611686018427387904):
 ∃ v' n' low' o',apF ⟨n,low,o⟩ 1 by_ v (some (1,[x]))=some (.val' v' ⟨n',low',o'⟩)/\AccI lo v' n' o' (R++[x])/\n<=n'/\(∀ id,id<lo->o'.get id=o.get id)/\(lo<=low->lo<=low'):=by
 have hc2:(R++[x]).all AV.isCell=true:=by rw [List.all_append,hR];simp [hx]
 rcases h with ⟨rfl,rfl⟩ | ⟨h0,id,g,c,rfl,hc,h2,h3,h4⟩
 ·have:=CE (s:=⟨n,low,o⟩) (k:=1) (by_:=by_) (n:=1) (new:=[x]) (by decide) (by simpa using hr) (by simp [hx])
  exact ⟨_,n+1,low,o.set n (ob [x]),this,.inr ⟨by simp,n,0,.room 1,rfl,.inl rfl,Tr.get_set_same _ _ _,hl,Nat.lt_succ_self _⟩,Nat.le_succ _,fun id hid=>Tr.get_set_ne _ _ (by omega),fun h=>h⟩
 ·rcases hc with rfl | rfl
  ·have:=zY (s:=⟨n,low,o⟩) (id:=id) (g:=g) (len:=R.length) (k:=1) (by_:=by_) (n:=1) (cs:=R) (new:=[x]) (by simp) (by simp) hr
   refine ⟨.sl id (g+1) 0 (R.length+1) (.room 1),n,Nat.min id low,o.set id (aX (g+1) (R++[x])),?_,.inr ⟨by simp,id,g+1,.room 1,by simp,.inl rfl,Tr.get_set_same _ _ _,h3,h4⟩,Nat.le_refl _,fun j hj=>Tr.get_set_ne _ _ (by omega),fun h=>Nat.le_min.2 ⟨h3,h⟩⟩
   rw [vY,Sto.get_mk h4,h2,this,Sto.put_any]
  ·have:=SJ (s:=⟨n,low,o⟩) (g:=g) (len:=R.length) (k:=1) (by_:=by_) (n:=1) (cs:=R) (new:=[x]) (by simp) hr hR (by simp [hx])
   refine ⟨_,n+1,low,o.set n (ob (R++[x])),?_,.inr ⟨by simp,n,0,.room 1,rfl,.inl rfl,Tr.get_set_same _ _ _,hl,Nat.lt_succ_self _⟩,Nat.le_succ _,fun id hid=>Tr.get_set_ne _ _ (by omega),fun h=>h⟩
   rw [aBn (by omega),Sto.get_mk h4,h2,this,List.length_append];rfl
theorem AccI.frz {lo n low:Nat} {v:AV} {o:Tr AObj} {R:List AV} (h:AccI lo v n o R) (hR:∀ x∈R,x.isCell=true) (hu:∀ x∈R,UnderE 0 x):Frz ⟨n,low,o⟩ 0 v (if R.length=0 then .nils else .fz R false):=by
 rcases h with ⟨rfl,rfl⟩ | ⟨h0,id,g,c,rfl,_,h2,h3,h4⟩
 ·exact .und _ fR
 ·rw [if_neg fun e=>h0 (List.eq_nil_of_length_eq_zero e)]
  refine uL (g:=g) (cs:=R) (Nat.zero_le _) ((Sto.get_mk h4).trans h2) rfl (by omega) hR fun j x y hx hy=>?_
  rw [Nat.zero_add]at hx
  rw [hx]at hy
  cases hy
  exact .und _ (hu x (List.mem_of_getElem? hx)).und
end
end Go.Abs
namespace Go.Proofs.YtdipddlhenoglaaGreat
open Go.Abs Go Go.Abs.TryzF
noncomputable section
set_option maxRecDepth 10000
section
variable {p os ts us is no:AV}
def fF (os ts:AV) (k:Nat):List Nat:=(List.range ts.els.length).filter fun i=>decide (cW (cN os ts) i=cW (cN os ts) k)
theorem sG (os ts:AV) (k:Nat):(fF os ts k).length<=ts.els.length:=by
 have:=List.length_filter_le (fun i=>decide (cW (cN os ts) i=cW (cN os ts) k)) (List.range ts.els.length)
 rw [List.length_range]at this;exact this
theorem kA {p:Nat->Bool} {i:Nat}:(List.range (i+1)).filter p=(List.range i).filter p++(if p i=true then [i] else []):=by
 rw [List.range_succ,List.filter_append,List.filter_cons,List.filter_nil]
theorem JE {l:List Nat}:bF l=(if (aQ l).length=0 then .nils else .fz (aQ l) false):=by rw [bF,bL,nY]
theorem oX {l:List Nat} {i:Nat}:aQ (l++[i])=aQ l++[.int .i64 (i:Nat)]:=by simp [aQ]
theorem jC {l:List Nat}:∀ x∈aQ l,x.isCell=true/\UnderE 0 x:=fun x hx=>by obtain ⟨_,_,rfl⟩:=List.mem_map.1 hx;exact ⟨rfl,1,rfl⟩
set_option maxHeartbeats 8000000 in
theorem aEr (h:GW os ts us is no) {k:Nat} (hk:k<ts.els.length):Abs.Returns Tryz.prog 36 [dY os ts us is no,.int .i64 (k:Nat)] (bF (fF os ts k)):=by
 have huw:=h.g.und
 obtain ⟨c0,c1,c2,c3,c4⟩:=h.g.cells
 have hm:ts.els.length<=120:=Nat.le_trans h.l h.ol
 have hll:(cN os ts).length=120:=AK
 have hlc:(aQ (cN os ts)).length=120:=by rw [bH,hll]
 have hla:=fW (l:=cN os ts)
 have hst:Sl ts ts.els:=by
  obtain ⟨xs,hs,_⟩:=h.g.ts
  rw [hs.els];exact hs
 have hz:List.replicate 120 (AV.int .i64 0)=aQ (List.replicate 120 0):=EK (v:=0)
 have hall:=fW (l:=List.replicate 120 0)
 have hlz:(aQ (List.replicate 120 0)).length=120:=by simp [bH]
 have hspl:cY (aQ (List.replicate 120 0)) 0 (aQ (cN os ts))=aQ (cN os ts):=pQ (by simp [bH,hll])
 refine bW (L:=[eT 35 [dY os ts us is no] (.agg (aQ (cN os ts)))]) (elist_cons (bG (YW h)) aG) aM (by kernel_rfl) Tryz.func36 Tryz.ntmps36 Tryz.results36 rfl rfl (aA huw.und (aA aS aF)) ?_
 simp +contextual +decide (maxSteps:=1000000) only [↓ wP,wQ,tf,Nat.reduceAdd,wS,reduceCtorEq,c0,c1,c2,c3,c4,eC,hz,hall,hla,hlz,hlc,hspl,hst.len]
 refine aP (fun i e=>∃ t n low o v,e=⟨29,none,36,t,[],⟨n,low,o⟩,.no⟩/\t.val 1=.int .i64 (k:Nat)/\t.val 5=.ptr 1 0 0/\t.val 6=v/\t.val 12=.int .i64 (ts.els.length:Nat)/\t.val 13=.int .i64 (i:Nat)/\o.get 1=some (aX 0 (aQ (cN os ts)))/\2<=n/\
  AccI 2 v n o (aQ ((List.range i).filter fun i=>decide (cW (cN os ts) i=cW (cN os ts) k)))/\i<=ts.els.length) (fun i=>ts.els.length-i) 0
  ⟨_,_,_,_,.nils,rfl,by simp +decide only [↓ aB,aE,aC],by simp +decide only [↓ aB,aE,aC],by simp +decide only [↓ aB,aE,aC],by simp +decide only [↓ aB,aE,aC],by simp +decide only [↓ aB,aE,aC];rfl,by simp +decide only [↓ aB,aJ,aC,ne_eq],Nat.le_refl _,.inl ⟨rfl,rfl⟩,Nat.zero_le _⟩ ?_
 rintro i _ ⟨t,n,low,o,v,rfl,t1,t5,t6,t12,t13,g1,hn,hA,hi⟩
 have f1:=lO (show 1<n by omega)
 rcases Nat.lt_or_ge i ts.els.length with hlt | hge
 ·have k1:(((i:Nat):Int)<((ts.els.length:Nat):Int))=True:=eq_true (by omega)
  have k2:(0<=((i:Nat):Int))=True:=eq_true (by omega)
  have k3:(((i:Nat):Int)<((120:Nat):Int))=True:=eq_true (by omega)
  have k4:(0<=((k:Nat):Int))=True:=eq_true (by omega)
  have k5:(((k:Nat):Int)<((120:Nat):Int))=True:=eq_true (by omega)
  have y1:=fK (qS (show i<(cN os ts).length by omega))
  have y2:=fK (qS (show k<(cN os ts).length by omega))
  have hw:IntKind.i64.wrap ((i:Int)+1)=((i+1:Nat):Int):=by rw [IntWalk.i64_in _ (by omega)];rfl
  have hsn:=kA (p:=fun i=>decide (cW (cN os ts) i=cW (cN os ts) k)) (i:=i)
  have s1:∀ {a:AV},[AV.int .i64 0].set (0*1) a=[a]:=rfl
  have hRl:(aQ ((List.range i).filter fun i=>decide (cW (cN os ts) i=cW (cN os ts) k))).length<=i:=by
   rw [bH]
   have:=List.length_filter_le (fun i=>decide (cW (cN os ts) i=cW (cN os ts) k)) (List.range i)
   rw [List.length_range]at this;exact this
  by_cases hp:cW (cN os ts) i=cW (cN os ts) k
  ·rw [decide_eq_true hp,if_pos rfl]at hsn
   have hA':AccI 2 v (n+1) (o.set n (aX 0 [.int .i64 (i:Nat)])) _:=hA.keep (Nat.le_succ n) fun id _ h2=>Tr.get_set_ne _ _ (by omega)
   obtain ⟨v',n',low',o',q1,q2,q3,q4,_⟩:=hA'.app (low:=low) (by_:=8) fW (x:=.int .i64 (i:Nat)) rfl (by omega) (by omega)
   have kp:(((cW (cN os ts) i:Nat):Int)=((cW (cN os ts) k:Nat):Int))=True:=eq_true (by rw [hp])
   have hcv:=hA.cell
   simp +contextual +decide (maxSteps:=1000000) only [↓ wP,wQ,tf,Nat.reduceAdd,wS,reduceCtorEq,t1,t5,t6,t12,t13,g1,f1,dA,k1,k2,k3,k4,k5,y1,y2,hw,s1,kp,q1,hcv,gQ,Int.toNat_natCast,Nat.mul_one,Nat.zero_add]
   refine ⟨i+1,by show _-_<_-_;omega,_,_,_,_,v',rfl,by simp +decide only [↓ aB,aE,aC,t1],by simp +decide only [↓ aB,aE,aC,t5],by simp +decide only [↓ aB,aE,aC],by simp +decide only [↓ aB,aE,aC,t12],by simp +decide only [↓ aB,aE,aC],?_,by omega,?_,hlt⟩
   ·rw [q4 1 (by omega),Tr.get_set_ne _ _ (by omega)];exact g1
   ·rw [hsn,oX];exact q2
  ·rw [decide_eq_false hp,if_neg (by decide),List.append_nil]at hsn
   have kp:(((cW (cN os ts) i:Nat):Int)=((cW (cN os ts) k:Nat):Int))=False:=eq_false (by omega)
   simp +contextual +decide (maxSteps:=1000000) only [↓ wP,wQ,tf,Nat.reduceAdd,wS,reduceCtorEq,t1,t5,t6,t12,t13,g1,f1,dA,k1,k2,k3,k4,k5,y1,y2,hw,kp,gQ,Int.toNat_natCast,Nat.mul_one,Nat.zero_add]
   exact ⟨i+1,by show _-_<_-_;omega,_,_,_,_,v,rfl,by simp +decide only [↓ aB,aE,aC,t1],by simp +decide only [↓ aB,aE,aC,t5],by simp +decide only [↓ aB,aE,aC,t6],by simp +decide only [↓ aB,aE,aC,t12],by simp +decide only [↓ aB,aE,aC],g1,hn,by rw [hsn];exact hA,hlt⟩
 ·obtain rfl:i=ts.els.length:=Nat.le_antisymm hi hge
  simp +contextual +decide (maxSteps:=1000000) only [↓ wP,wQ,tf,Nat.reduceAdd,wS,reduceCtorEq,t6,t12,t13,bE]
  rw [JE]
  exact hA.frz (fun x hx=>(jC x hx).1) fun x hx=>(jC x hx).2
theorem NC {l:List Nat} {i v:Nat} (h:l[i]?=some v) (hl:i<120):mJ Tryz.prog 78 (.agg (aQ l)) (.int .i64 (i:Nat))=some (.int .i64 (v:Nat)):=by
 have hb:Nat.blt i 120=true:=by simpa using hl
 have h1:mJ Tryz.prog 78 (.agg (aQ l)) (.int .i64 (i:Nat))=(match (bif Nat.blt i 120 then some i else none),some 1 with
  | some i,some k=>kN Tryz.prog 3 (aQ l) (i*k)
  | _,_=>none):=rfl
 rw [h1,hb]
 show kN Tryz.prog 3 (aQ l) (i*1)=_
 rw [Nat.mul_one]
 have h2:kN Tryz.prog 3 (aQ l) i=(aQ l)[i]?:=rfl
 rw [h2,fK h]
abbrev RI (os ts us is no:AV):List AV->Option AV:=xB (fun w t=>w=dY os ts us is no/\∃ k:Nat,k<ts.els.length/\t=.int .i64 (k:Nat)) fun _ t=>bF (fF os ts t.num.toNat)
theorem YT (h:GW os ts us is no):Abs.Ok Tryz.prog 36 (RI os ts us is no):=ok2 fun w t ⟨e,k,hk,e'⟩=>by
 subst e;subst e';exact aEr h hk
def oY (os ts:AV) (n:Nat):List Nat:=(List.range n).filter fun i=>decide (i<ts.els.length/\cW (cN os ts) i=i)
def cB (os ts:AV) (n:Nat):List AV:=(oY os ts n).map fun i=>bF (fF os ts i)
def tZ (os ts:AV) (b:Bool):AV:=if b=true then (if (cB os ts 120).length=0 then .nils else .fz (cB os ts 120) false) else .nils
theorem uA (os ts:AV) (n:Nat):(oY os ts n).length<=n:=by
 have:=List.length_filter_le (fun i=>decide (i<ts.els.length/\cW (cN os ts) i=i)) (List.range n)
 rw [List.length_range]at this;exact this
theorem cD {l:List Nat}:(bF l).isCell=true:=by unfold bF bL;split<;>rfl
theorem iA (h:GW os ts us is no) {n:Nat}:∀ x∈cB os ts n,x.isCell=true/\UnderE 0 x:=fun x hx=>by
 obtain ⟨i,_,rfl⟩:=List.mem_map.1 hx
 exact ⟨cD,iJ (Nat.le_trans (sG os ts i) (by have:=h.l;have:=h.ol;omega))⟩
set_option maxHeartbeats 8000000 in
theorem YU (hp:fM p) (hg:WG os ts us is no) (hgw:(fL p&&nI p (dY os ts us is no))=true->GW os ts us is no):
 Abs.Returns Tryz.prog 9 [p,dY os ts us is no] (.tuple [tZ os ts (fL p&&nI p (dY os ts us is no)),gU (fL p&&nI p (dY os ts us is no))]):=by
 have hup:=(cE p hp).1
 have huw:=hg.und
 obtain ⟨c0,c1,c2,c3,c4⟩:=hg.cells
 have e1:sO [p,dY os ts us is no]=some (gU (fL p&&nI p (dY os ts us is no))):=sg2_eq ⟨hp,hg.wd⟩
 obtain ⟨_,ps,rfl,hpl,hpc⟩:=cE p hp
 cases hb:(fL (.agg ps)&&nI (.agg ps) (dY os ts us is no)) with
 | false=>
   rw [hb]at e1
   refine bW (L:=[ent 34 sO]) (elist_cons mCheck_ok.ent aG) aM (by kernel_rfl) Tryz.func9 Tryz.ntmps9 Tryz.results9 rfl rfl (aA hup.und (aA huw.und aF)) ?_
   simp +contextual +decide (maxSteps:=1000000) only [↓ wP,wQ,tf,Nat.reduceAdd,wS,reduceCtorEq,c0,c1,c2,c3,c4,hpl,hpc,e1,gU]
   exact .und _ (sV (aA fR (aA aS aF)))
 | true=>
   have hw:=hgw hb
   rw [hb]at e1
   have hm:ts.els.length<=120:=Nat.le_trans hw.l hw.ol
   have hll:(cN os ts).length=120:=AK
   have hst:Sl ts ts.els:=by
    obtain ⟨xs,hs,_⟩:=hg.ts
    rw [hs.els];exact hs
   refine bW (L:=[ent 34 sO,eT 35 [dY os ts us is no] (.agg (aQ (cN os ts))),ent 36 (RI os ts us is no)]) (elist_cons mCheck_ok.ent (elist_cons (bG (YW hw)) (elist_cons (YT hw).ent aG))) aM (by kernel_rfl) Tryz.func9 Tryz.ntmps9 Tryz.results9 rfl rfl (aA hup.und (aA huw.und aF)) ?_
   simp +contextual +decide (maxSteps:=1000000) only [↓ wP,wQ,tf,Nat.reduceAdd,wS,reduceCtorEq,c0,c1,c2,c3,c4,hpl,hpc,e1,gU,eC]
   refine aP (fun i e=>∃ t n low o v,e=⟨37,none,9,t,[],⟨n,low,o⟩,.no⟩/\t.val 3=.ptr 1 0 0/\t.val 6=v/\t.val 14=.agg (aQ (cN os ts))/\t.val 15=.int .i64 (i:Nat)/\o.get 1=some (aX 0 [os,ts,us,is,no])/\2<=n/\AccI 2 v n o (cB os ts i)/\i<=120) (fun i=>120-i) 0
    ⟨_,_,_,_,.nils,rfl,by simp +decide only [↓ aB,aE,aC],by simp +decide only [↓ aB,aE,aC],by simp +decide only [↓ aB,aE,aC],by simp +decide only [↓ aB,aE,aC];rfl,by simp +decide only [↓ aB,aJ,aC,ne_eq],Nat.le_refl _,.inl ⟨rfl,rfl⟩,Nat.zero_le _⟩ ?_
   rintro i _ ⟨t,n,low,o,v,rfl,t3,t6,t14,t15,g1,hn,hA,hi⟩
   have f1:=lO (show 1<n by omega)
   rcases Nat.lt_or_ge i 120 with hlt | hge
   ·have k1:(((i:Nat):Int)<120)=True:=eq_true (by omega)
    have k2:(0<=((i:Nat):Int))=True:=eq_true (by omega)
    have y1:=NC (qS (show i<(cN os ts).length by omega)) hlt
    have hw1:IntKind.i64.wrap ((i:Int)+1)=((i+1:Nat):Int):=by rw [IntWalk.i64_in _ (by omega)];rfl
    have hsn:oY os ts (i+1)=oY os ts i++(if decide (i<ts.els.length/\cW (cN os ts) i=i)=true then [i] else []):=kA
    have s1:∀ {a:AV},[AV.nils].set (0*1) a=[a]:=rfl
    have hRl:(cB os ts i).length<=i:=by rw [cB,List.length_map];exact uA os ts i
    by_cases hp:i<ts.els.length/\cW (cN os ts) i=i
    ·rw [decide_eq_true hp,if_pos rfl]at hsn
     have hA':AccI 2 v (n+1) (o.set n (aX 0 [bF (fF os ts i)])) _:=hA.keep (Nat.le_succ n) fun id _ h2=>Tr.get_set_ne _ _ (by omega)
     obtain ⟨v',n',low',o',q1,q2,q3,q4,_⟩:=hA'.app (low:=low) (by_:=24) (List.all_eq_true.2 fun x hx=>(iA hw x hx).1) (x:=bF (fF os ts i)) cD (by omega) (by omega)
     have kp:(((i:Nat):Int)=((cW (cN os ts) i:Nat):Int))=True:=eq_true (by rw [hp.2])
     have kl:(((i:Nat):Int)<((ts.els.length:Nat):Int))=True:=eq_true (by omega)
     have hcv:=hA.cell
     have hiv:RI os ts us is no [.agg [os,ts,us,is,no],.int .i64 (i:Nat)]=some (bF (fF os ts i)):=by
      rw [RI,sg2_eq (b:=.int .i64 (i:Nat)) ⟨rfl,i,hp.1,rfl⟩];rfl
     simp +contextual +decide (maxSteps:=1000000) only [↓ wP,wQ,tf,Nat.reduceAdd,wS,reduceCtorEq,t3,t6,t14,t15,g1,f1,dA,k1,k2,y1,hw1,s1,kp,kl,q1,hcv,hiv,lF,hst.len,c1,cD]
     refine ⟨i+1,by show _-_<_-_;omega,_,_,_,_,v',rfl,by simp +decide only [↓ aB,aE,aC,t3],by simp +decide only [↓ aB,aE,aC],by simp +decide only [↓ aB,aE,aC,t14],by simp +decide only [↓ aB,aE,aC],?_,by omega,?_,hlt⟩
     ·rw [q4 1 (by omega),Tr.get_set_ne _ _ (by omega)];exact g1
     ·rw [cB,hsn,List.map_append];exact q2
    ·rw [decide_eq_false hp,if_neg (by decide),List.append_nil]at hsn
     by_cases hl:i<ts.els.length
     ·have kl:(((i:Nat):Int)<((ts.els.length:Nat):Int))=True:=eq_true (by omega)
      have kp:(((i:Nat):Int)=((cW (cN os ts) i:Nat):Int))=False:=eq_false fun e=>hp ⟨hl,by omega⟩
      simp +contextual +decide (maxSteps:=1000000) only [↓ wP,wQ,tf,Nat.reduceAdd,wS,reduceCtorEq,t3,t6,t14,t15,g1,f1,dA,k1,k2,y1,hw1,kp,kl,hst.len,c1]
      exact ⟨i+1,by show _-_<_-_;omega,_,_,_,_,v,rfl,by simp +decide only [↓ aB,aE,aC,t3],by simp +decide only [↓ aB,aE,aC,t6],by simp +decide only [↓ aB,aE,aC,t14],by simp +decide only [↓ aB,aE,aC],g1,hn,by rw [cB,hsn];exact hA,hlt⟩
     ·have kl:(((i:Nat):Int)<((ts.els.length:Nat):Int))=False:=eq_false (by omega)
      simp +contextual +decide (maxSteps:=1000000) only [↓ wP,wQ,tf,Nat.reduceAdd,wS,reduceCtorEq,t3,t6,t14,t15,g1,f1,dA,k1,k2,y1,hw1,kl,hst.len,c1]
      exact ⟨i+1,by show _-_<_-_;omega,_,_,_,_,v,rfl,by simp +decide only [↓ aB,aE,aC,t3],by simp +decide only [↓ aB,aE,aC,t6],by simp +decide only [↓ aB,aE,aC,t14],by simp +decide only [↓ aB,aE,aC],g1,hn,by rw [cB,hsn];exact hA,hlt⟩
   ·obtain rfl:i=120:=Nat.le_antisymm hi hge
    simp +contextual +decide (maxSteps:=1000000) only [↓ wP,wQ,tf,Nat.reduceAdd,wS,reduceCtorEq,t6,t15]
    rw [tZ,if_pos rfl]
    exact .tuple _ _ rfl (eU (hA.frz (fun x hx=>(iA hw x hx).1) fun x hx=>(iA hw x hx).2) (eU (.und _ aS) mT))
end
theorem qListed_ok:Abs.Ok Tryz.prog 86 iN:=ok2 fun a b ⟨ha,hb⟩=>by
 obtain ⟨m,rfl⟩:=hb
 have hua:=(aU a ha).1
 obtain ⟨xs,hs,hxs⟩:=ha
 have hl:=hs.2
 refine aH (L:=[]) aG aM (by kernel_rfl) Tryz.func86 Tryz.ntmps86 Tryz.results86 rfl rfl (aA hua.und (aA aS aF)) aL ?_
 rw [hs.els,show (AV.int .i64 m).num=m from rfl]
 simp +contextual +decide (maxSteps:=1000000) only [↓ wP,wQ,tf,Nat.reduceAdd,wS,reduceCtorEq]
 refine aP (fun i e=>∃ t n low o,e=⟨18,none,86,t,[],⟨n,low,o⟩,.no⟩/\t.val 0=a/\t.val 1=.int .i64 m/\t.val 5=.int .i64 (i:Nat)/\0<=n/\i<=xs.length/\(xs.any fun x=>decide (x.num=m))=((xs.drop i).any fun x=>decide (x.num=m))) (fun i=>xs.length-i) 0 ⟨_,_,_,_,rfl,by simp +decide only [↓ aB,aE,aC],by simp +decide only [↓ aB,aE,aC],by simp +decide only [↓ aB,aE,aC];rfl,by omega,Nat.zero_le _,rfl⟩ ?_
 rintro i _ ⟨t,n,low,o,rfl,t0,t1,t5,hn,hi,hq⟩
 rcases Nat.lt_or_ge i xs.length with hlt | hge
 ·obtain ⟨y,hDy,hm,hg,hd,hix,hw,hc⟩:=bK (fun x h=>tu_int.len h) hxs hl hlt
  rw [hd,List.any_cons]at hq
  have hpf:=fun {d:Option AV}=>tu_int.pf hDy (d:=d)
  obtain ⟨z,rfl⟩:=hDy
  by_cases hz:z=m
  ·rw [show (AV.int .i64 z).num=z from rfl,decide_eq_true hz,Bool.true_or]at hq
   simp +contextual +decide (maxSteps:=1000000) only [↓ wP,wQ,tf,Nat.reduceAdd,wS,reduceCtorEq,t0,t1,t5,hs.len,hs.idx,hix,hc,hpf,hz,hq]
  ·rw [show (AV.int .i64 z).num=z from rfl,decide_eq_false hz,Bool.false_or]at hq
   simp +contextual +decide (maxSteps:=1000000) only [↓ wP,wQ,tf,Nat.reduceAdd,wS,reduceCtorEq,t0,t1,t5,hs.len,hs.idx,hix,hc,hpf,hz,hw]
   exact ⟨i+1,by show _-_<_-_;omega,_,_,_,_,rfl,by simp +decide only [↓ aB,aE,aC,t0],by simp +decide only [↓ aB,aE,aC,t1],by simp +decide only [↓ aB,aE,aC],by omega,hlt,hq⟩
 ·obtain rfl:i=xs.length:=Nat.le_antisymm hi hge
  rw [List.drop_length,List.any_nil]at hq
  simp +contextual +decide (maxSteps:=1000000) only [↓ wP,wQ,tf,Nat.reduceAdd,wS,reduceCtorEq,t0,t1,t5,hs.len,bE,hq]
def RowN (s:Sto) (v:AV) (l:List Nat):Prop:=(v=.nils/\l=[])∨(∃ c,v=.fz (aQ l) c)∨∃ id g c,v=.sl id g 0 l.length c/\s.get id=some (aX g (aQ l))
theorem xC {a b:List Nat} (h:aQ a=aQ b):a=b:=by
 rw [nY,nY]at h
 have:=EM h
 rwa [EL]at this
theorem RowN.uniq {s:Sto} {v:AV} {a b:List Nat} (h:RowN s v a) (h':RowN s v b):a=b:=by
 rcases h with ⟨rfl,rfl⟩ | ⟨c,rfl⟩ | ⟨id,g,c,rfl,h⟩<;>rcases h' with ⟨h1,h2⟩ | ⟨c',h1⟩ | ⟨id',g',c',h1,h2⟩<;>try cases h1
 ·exact h2.symm
 ·exact xC (AV.fz.inj h1).1
 ·obtain ⟨rfl,rfl,_⟩:=AV.sl.inj h1
  rw [h]at h2
  exact xC (vU (Option.some.inj h2)).2
theorem xE {l:List Nat}:∀ x∈aQ l,cM x:=fun x hx=>by obtain ⟨n,_,rfl⟩:=List.mem_map.1 hx;exact ⟨_,rfl⟩
theorem RowN.frz {s:Sto} {v:AV} {l:List Nat} (h:RowN s v l) (hl:l.length<=1000):∃ a,Sl a (aQ l)/\Frz s 0 v a:=by
 rcases h with ⟨rfl,rfl⟩ | ⟨c,rfl⟩ | ⟨id,g,c,rfl,h⟩
 ·exact ⟨.nils,⟨.inl ⟨rfl,rfl⟩,by simp [aQ]⟩,.und _ fR⟩
 ·exact ⟨_,⟨.inr ⟨c,rfl⟩,by rw [bH];omega⟩,.und _ (aKn fun x hx y hy=>by
   obtain ⟨n,_,rfl⟩:=List.mem_map.1 hx
   obtain rfl:=List.mem_singleton.1 hy
   exact aS)⟩
 ·refine ⟨.fz (aQ l) false,⟨.inr ⟨_,rfl⟩,by rw [bH];omega⟩,uL (g:=g) (cs:=aQ l) (Nat.zero_le _) h bH (by rw [bH];omega) (fun x hx=>(jC x hx).1) fun j x y hx hy=>?_⟩
  rw [Nat.zero_add]at hx
  rw [hx]at hy
  cases hy
  exact .und _ (jC x (List.mem_of_getElem? hx)).2.und
theorem RowN.acc {lo n low:Nat} {v:AV} {o:Tr AObj} {l:List Nat} (h:AccI lo v n o (aQ l)):RowN ⟨n,low,o⟩ v l:=by
 rcases h with ⟨h1,rfl⟩ | ⟨h0,id,g,c,rfl,_,h2,h3,h4⟩
 ·exact .inl ⟨rfl,List.map_eq_nil_iff.1 h1⟩
 ·exact .inr (.inr ⟨id,g,c,by rw [bH],(Sto.get_mk h4).trans h2⟩)
theorem RowN.sim {s s':Sto} {v:AV} {l:List Nat} (h:RowN s v l) (hs:Sim s s'):RowN s' v l:=by
 rcases h with h | h | ⟨id,g,c,h1,h2⟩
 ·exact .inl h
 ·exact .inr (.inl h)
 ·exact .inr (.inr ⟨id,g,c,h1,hs.get h2⟩)
theorem JF {l:List Nat} {x:Nat}:((aQ l).any fun y=>decide (y.num=((x:Nat):Int)))=decide (x∈l):=by
 induction l with
 | nil=>rfl
 | cons a l ih=>
   rw [show aQ (a::l)=.int .i64 (a:Nat)::aQ l from rfl,List.any_cons,ih,show (AV.int .i64 ((a:Nat):Int)).num=(a:Nat) from rfl]
   by_cases h:x=a
   ·subst h;simp
   ·have h1:¬ ((a:Nat):Int)=(x:Nat):=by omega
    simp [h,h1]
def ND (args:List AV) (s:Sto) (res:CRes):Prop:=∃ v l x,args=[v,.int .i64 ((x:Nat):Int)]/\RowN s v l/\res=.ret (.bool (decide (x∈l))) none/\bU Tryz.prog 86 args s res
theorem EG {s:Sto} {v:AV} {l:List Nat} (h:RowN s v l) (hl:l.length<=1000) (x:Nat):∃ res,ND [v,.int .i64 (x:Nat)] s res:=by
 obtain ⟨a,h1,h2⟩:=h.frz hl
 refine ⟨_,v,l,x,rfl,h,rfl,sR (args':=[a,.int .i64 (x:Nat)]) (qListed_ok _ _ ?_) oI ⟨h2,.und _ aS,trivial⟩⟩
 rw [iN,sg2_eq (b:=.int .i64 (x:Nat)) ⟨⟨_,h1,xE⟩,_,rfl⟩,h1.els]
 rw [show (AV.int .i64 ((x:Nat):Int)).num=(x:Nat) from rfl,JF]
theorem FW {s:Sto} {v:AV} {l:List Nat} {x:Nat} {res:CRes} (h:RowN s v l) (hr:ND [v,.int .i64 (x:Nat)] s res):res=.ret (.bool (decide (x∈l))) none:=by
 obtain ⟨v',l',x',h1,h2,h3,_⟩:=hr
 simp only [List.cons.injEq,AV.int.injEq,true_and,and_true]at h1
 obtain ⟨rfl,h1⟩:=h1
 obtain rfl:x=x':=by omega
 rw [h3,h.uniq h2]
theorem RJ {s:Sto} {v:AV} {l:List Nat} (h:RowN s v l) (hl:l.length<=1000) (x:Nat) (L:List mN):orcL (fJ 86 ND::L) 86 [v,.int .i64 (x:Nat)] s=some (.ret (.bool (decide (x∈l))) none):=by
 obtain ⟨res,h1,h2⟩:=kB (f:=86) (EG h hl x)
 rw [<-FW h h1];exact h2 _
theorem RK:cC Tryz.prog (fJ 86 ND):=pK fun _ _ _ h=>by obtain ⟨_,_,_,_,_,_,h⟩:=h;exact h
def uB (l:List Nat) (x:Nat):List Nat:=if x∈l then l else l++[x]
def NE (lo:Nat) (args:List AV) (s:Sto) (res:CRes):Prop:=∃ v l x,args=[v,.int .i64 ((x:Nat):Int)]/\AccI lo v s.n s.o (aQ l)/\(∃ v' S,res=.ret v' (some S)/\AccI lo v' S.n S.o (aQ (uB l x))/\s.n<=S.n/\(∀ id,id<lo->S.o.get id=s.o.get id)/\(∀ m,m<=lo->m<=s.low->m<=S.low))/\bU Tryz.prog 65 args s res
set_option maxHeartbeats 4000000 in
theorem TS {lo:Nat} {s:Sto} {v:AV} {l:List Nat} (h:AccI lo v s.n s.o (aQ l)) (hlo:lo<=s.n) (hl:l.length<=900) (x:Nat):∃ res,NE lo [v,.int .i64 (x:Nat)] s res:=by
 obtain ⟨n0,low0,o0⟩:=s
 have hlo':lo<=n0:=hlo
 have h':AccI lo v n0 o0 (aQ l):=h
 have hcv:=h.cell
 have key:∃ (S:Sto) (v':AV),(AccI lo v' S.n S.o (aQ (uB l x))/\n0<=S.n/\(∀ id,id<lo->S.o.get id=o0.get id)/\lo<=S.low)/\bU Tryz.prog 65 [v,.int .i64 (x:Nat)] ⟨n0,low0,o0⟩ (.ret v' (some {S with low:=Nat.min low0 S.low})):=by
  refine UN (L:=[fJ 86 ND]) (elist_cons RK aG) aM (by kernel_rfl) Tryz.func65 Tryz.ntmps65 Tryz.results65 rfl rfl ?_
  have hli:=fun {low:Nat}=>RJ (s:=⟨n0,low,o0⟩) (RowN.acc h') (by omega) x []
  by_cases hx:x∈l
  ·rw [decide_eq_true hx]at hli
   simp +contextual +decide (maxSteps:=1000000) only [↓ wP,wQ,tf,Nat.reduceAdd,wS,reduceCtorEq,hcv,hli]
   rw [uB,if_pos hx]
   exact ⟨h',fun _=>trivial,hlo'⟩
  ·rw [decide_eq_false hx]at hli
   have s1:∀ {a:AV},[AV.int .i64 0].set (0*1) a=[a]:=rfl
   have h2:AccI lo v (n0+1) (o0.set n0 (aX 0 [.int .i64 (x:Nat)])) (aQ l):=h'.keep (Nat.le_succ _) fun id _ h3=>Tr.get_set_ne _ _ (by omega)
   obtain ⟨v',n',low',o',q1,q2,q3,q4,q5⟩:=h2.app (low:=n0) (by_:=8) fW (x:=.int .i64 (x:Nat)) rfl (by omega) (by rw [bH];omega)
   simp +contextual +decide (maxSteps:=1000000) only [↓ wP,wQ,tf,Nat.reduceAdd,wS,reduceCtorEq,hcv,hli,s1,q1,dA]
   rw [uB,if_neg hx,oX]
   exact ⟨q2,by omega,fun id hid=>(q4 id hid).trans (Tr.get_set_ne _ _ (by omega)),q5 hlo'⟩
 obtain ⟨S,v',⟨h1,h2,h3,h4⟩,h5⟩:=key
 exact ⟨_,v,l,x,rfl,h,⟨v',{S with low:=Nat.min low0 S.low},rfl,h1,h2,h3,fun m hm (hl:m<=low0)=>Nat.le_min.2 ⟨hl,Nat.le_trans hm h4⟩⟩,h5⟩
theorem RowN.keep {s s':Sto} {v:AV} {l:List Nat} (h:RowN s v l) (hs:∀ id x,s.get id=some x->s'.get id=some x):RowN s' v l:=
 h.imp (fun h=>h) fun h=>h.imp (fun h=>h) fun ⟨id,g,c,h1,h2⟩=>⟨id,g,c,h1,hs _ _ h2⟩
theorem RowN.cell {s:Sto} {v:AV} {l:List Nat} (h:RowN s v l):v.isCell=true:=by
 rcases h with ⟨rfl,_⟩ | ⟨c,rfl⟩ | ⟨id,g,c,rfl,_⟩<;>rfl
theorem AccI.frzN {lo n low:Nat} {v:AV} {o:Tr AObj} {R:List AV} (h:AccI lo v n o R) (hR:∀ x∈R,x.isCell=true) (hu:∀ x∈R,UnderE 0 x):Frz ⟨n,low,o⟩ lo v (if R.length=0 then .nils else .fz R false):=by
 rcases h with ⟨rfl,rfl⟩ | ⟨h0,id,g,c,rfl,_,h2,h3,h4⟩
 ·exact .und _ fR
 ·rw [if_neg fun e=>h0 (List.eq_nil_of_length_eq_zero e)]
  refine uL (g:=g) (cs:=R) h3 ((Sto.get_mk h4).trans h2) rfl (by omega) hR fun j x y hx hy=>?_
  rw [Nat.zero_add]at hx
  rw [hx]at hy
  cases hy
  exact .und _ ((hu x (List.mem_of_getElem? hx)).mono (Nat.zero_le _)).und
def uV (l:List Nat) (n:Nat):List Nat:=(List.range n).filter fun i=>decide (i∈l)
theorem TT (l:List Nat) (n:Nat):(uV l n).length<=n:=by
 have:=List.length_filter_le (fun i=>decide (i∈l)) (List.range n)
 rw [List.length_range]at this;exact this
def uW (args:List AV) (s:Sto) (res:CRes):Prop:=∃ v l N,args=[v,.int .i64 ((N:Nat):Int)]/\RowN s v l/\res=.ret (bF (uV l N)) none/\bU Tryz.prog 66 args s res
set_option maxHeartbeats 4000000 in
theorem TU {s:Sto} {v:AV} {l:List Nat} (h:RowN s v l) (hl:l.length<=1000) {N:Nat} (hN:N<=1000):∃ res,uW [v,.int .i64 (N:Nat)] s res:=by
 refine ⟨_,v,l,N,rfl,h,rfl,?_⟩
 refine xL (L:=[fJ 86 ND]) (elist_cons RK aG) aM (by kernel_rfl) Tryz.func66 Tryz.ntmps66 Tryz.results66 rfl rfl ?_
 obtain ⟨n0,low0,o0⟩:=s
 have hcl:=h.cell
 simp +contextual +decide (maxSteps:=1000000) only [↓ wP,wQ,tf,Nat.reduceAdd,wS,reduceCtorEq,hcl]
 refine aP (fun i e=>∃ t n low o a,e=⟨20,none,66,t,[],⟨n,low,o⟩,.no⟩/\t.val 0=v/\t.val 1=.int .i64 (N:Nat)/\t.val 5=a/\t.val 6=.int .i64 (i:Nat)/\n0<=n/\n0<=low/\(∀ id,id<n0->o.get id=o0.get id)/\AccI n0 a n o (aQ (uV l i))/\i<=N) (fun i=>N-i) 0
  ⟨_,_,_,_,.nils,rfl,by simp +decide only [↓ aB,aE,aC],by simp +decide only [↓ aB,aE,aC],by simp +decide only [↓ aB,aE,aC],by simp +decide only [↓ aB,aE,aC];rfl,Nat.le_refl _,Nat.le_refl _,fun _ _=>rfl,.inl ⟨rfl,rfl⟩,Nat.zero_le _⟩ ?_
 rintro i _ ⟨t,n,low,o,a,rfl,t0,t1,t5,t6,hn,hlow,hold,hA,hi⟩
 rcases Nat.lt_or_ge i N with hlt | hge
 ·have hr':RowN ⟨n,low,o⟩ v l:=h.keep fun id x hx=>by
   have hid:id<n0:=Sto.get_lt hx
   rw [Sto.get_mk hid]at hx
   rw [Sto.get_mk (Nat.lt_of_lt_of_le hid hn),hold id hid];exact hx
  have hli:=RJ hr' hl i []
  have k1:(((i:Nat):Int)<((N:Nat):Int))=True:=eq_true (by omega)
  have hw:IntKind.i64.wrap ((i:Int)+1)=((i+1:Nat):Int):=by rw [IntWalk.i64_in _ (by omega)];rfl
  have hsn:uV l (i+1)=uV l i++(if decide (i∈l)=true then [i] else []):=kA
  have s1:∀ {a:AV},[AV.int .i64 0].set (0*1) a=[a]:=rfl
  have hRl:=TT l i
  have hca:=hA.cell
  by_cases hp:i∈l
  ·rw [decide_eq_true hp]at hli hsn
   rw [if_pos rfl]at hsn
   have hA':AccI n0 a (n+1) (o.set n (aX 0 [.int .i64 (i:Nat)])) _:=hA.keep (Nat.le_succ n) fun id _ h2=>Tr.get_set_ne _ _ (by omega)
   obtain ⟨v',n',low',o',q1,q2,q3,q4,q5⟩:=hA'.app (low:=low) (by_:=8) fW (x:=.int .i64 (i:Nat)) rfl (by omega) (by rw [bH];omega)
   simp +contextual +decide (maxSteps:=1000000) only [↓ wP,wQ,tf,Nat.reduceAdd,wS,reduceCtorEq,t0,t1,t5,t6,hcl,hca,hli,k1,hw,s1,q1,dA]
   refine ⟨i+1,by show _-_<_-_;omega,_,_,_,_,v',rfl,by simp +decide only [↓ aB,aE,aC,t0],by simp +decide only [↓ aB,aE,aC,t1],by simp +decide only [↓ aB,aE,aC],by simp +decide only [↓ aB,aE,aC],by omega,?_,?_,?_,hlt⟩
   ·exact q5 hlow
   ·intro id hid;rw [q4 id hid,Tr.get_set_ne _ _ (by omega)];exact hold id hid
   ·rw [hsn,oX];exact q2
  ·rw [decide_eq_false hp]at hli hsn
   rw [if_neg (by decide),List.append_nil]at hsn
   simp +contextual +decide (maxSteps:=1000000) only [↓ wP,wQ,tf,Nat.reduceAdd,wS,reduceCtorEq,t0,t1,t5,t6,hcl,hca,hli,k1,hw,dA]
   exact ⟨i+1,by show _-_<_-_;omega,_,_,_,_,a,rfl,by simp +decide only [↓ aB,aE,aC,t0],by simp +decide only [↓ aB,aE,aC,t1],by simp +decide only [↓ aB,aE,aC,t5],by simp +decide only [↓ aB,aE,aC],hn,hlow,hold,by rw [hsn];exact hA,hlt⟩
 ·obtain rfl:i=N:=Nat.le_antisymm hi hge
  have k1:(((i:Nat):Int)<((i:Nat):Int))=False:=eq_false (Int.lt_irrefl _)
  simp +contextual +decide (maxSteps:=1000000) only [↓ wP,wQ,tf,Nat.reduceAdd,wS,reduceCtorEq,t1,t5,t6,k1,dA]
  refine ⟨rfl,_,rfl,?_⟩
  simp +contextual +decide (maxSteps:=1000000) only [↓ wP,wQ,tf,Nat.reduceAdd,wS,reduceCtorEq]
  rw [JE]
  exact ⟨hlow,AccI.frzN hA (fun x hx=>(jC x hx).1) fun x hx=>(jC x hx).2⟩
theorem aEs {s:Sto} {v:AV} {l:List Nat} {N:Nat} {res:CRes} (h:RowN s v l) (hr:uW [v,.int .i64 (N:Nat)] s res):res=.ret (bF (uV l N)) none:=by
 obtain ⟨v',l',x',h1,h2,h3,_⟩:=hr
 simp only [List.cons.injEq,AV.int.injEq,true_and,and_true]at h1
 obtain ⟨rfl,h1⟩:=h1
 obtain rfl:N=x':=by omega
 rw [h3,h.uniq h2]
theorem RL {s:Sto} {v:AV} {l:List Nat} (h:RowN s v l) (hl:l.length<=1000) {N:Nat} (hN:N<=1000) (L:List mN):orcL (fJ 66 uW::L) 66 [v,.int .i64 (N:Nat)] s=some (.ret (bF (uV l N)) none):=by
 obtain ⟨res,h1,h2⟩:=kB (f:=66) (TU h hl hN)
 rw [<-aEs h h1];exact h2 _
theorem RN:cC Tryz.prog (fJ 66 uW):=pK fun _ _ _ h=>by obtain ⟨_,_,_,_,_,_,h⟩:=h;exact h
def hQv:cU:=fun r=>if r=5 then ([],[1000,2001,16]) else ([],[])
theorem aJc:hQv 5=([],[1000,2001,16]):=rfl
theorem uX {k lo n low by_:Nat} {v:AV} {o:Tr AObj} {R:List (List AV)} {xs:List AV} (h:AccM k lo v n o R) (h0:¬ (R=[]/\xs=[])) (hc:∀ x∈xs,x.cells.length=k/\x.cells.all AV.isCell=true) (hR:∀ x∈R,x.length=k) (hl:lo<=n) (hr:(2*(R.length+xs.length)+1024)*by_<=281474976710656/\R.length+xs.length<4611686018427387904):
 ∃ v' n' low' o',apF ⟨n,low,o⟩ k by_ v (some (xs.length,(xs.map AV.cells).flatten))=some (.val' v' ⟨n',low',o'⟩)/\AccM k lo v' n' o' (R++xs.map AV.cells)/\n<=n'/\(∀ id,id<lo->o'.get id=o.get id)/\(lo<=low->lo<=low'):=by
 have hnl:(xs.map AV.cells).flatten.length=xs.length*k:=by
  have:=fO (k:=k) (xs.map AV.cells) fun x hx=>by obtain ⟨y,hy,rfl⟩:=List.mem_map.1 hx;exact (hc y hy).1
  rw [this,List.length_map]
 have hnc:(xs.map AV.cells).flatten.all AV.isCell=true:=List.all_eq_true.2 fun x hx=>by
  obtain ⟨l,hl,hx⟩:=List.mem_flatten.1 hx
  obtain ⟨y,hy,rfl⟩:=List.mem_map.1 hl
  exact List.all_eq_true.1 (hc y hy).2 x hx
 rcases h with ⟨rfl,rfl⟩ | ⟨hne,id,g,rfl,h2,h3,h4⟩
 ·have hx:xs≠[]:=fun e=>h0 ⟨rfl,e⟩
  have hx0:xs.length≠0:=fun e=>hx (List.eq_nil_of_length_eq_zero e)
  have:=CE (s:=⟨n,low,o⟩) (k:=k) (by_:=by_) (n:=xs.length) (new:=(xs.map AV.cells).flatten) hx0 (by simpa using hr) hnc
  refine ⟨_,n+1,low,o.set n (ob (xs.map AV.cells).flatten),this,?_,Nat.le_succ _,fun id hid=>Tr.get_set_ne _ _ (by omega),fun h=>h⟩
  exact AccM.new (g:=0) (by rw [List.nil_append];exact Tr.get_set_same _ _ _) (by simp) (by simpa using hx) (Nat.lt_succ_self _) hl
 ·have hfl:R.flatten.length=R.length*k:=fO _ hR
  have:=zY (s:=⟨n,low,o⟩) (id:=id) (g:=g) (by_:=by_) (n:=xs.length) hfl hnl hr
  refine ⟨.sl id (g+1) 0 (R.length+xs.length) (.room k),n,Nat.min id low,o.set id (aX (g+1) (R.flatten++(xs.map AV.cells).flatten)),?_,?_,Nat.le_refl _,fun j hj=>Tr.get_set_ne _ _ (by omega),fun h=>Nat.le_min.2 ⟨h4,h⟩⟩
  ·rw [vY,Sto.get_mk h3,h2,this,Sto.put_any]
  ·exact AccM.new (g:=g+1) (by rw [List.flatten_append];exact Tr.get_set_same _ _ _) (by simp) (by simp [hne]) h3 h4
theorem aEt {k lo n low by_:Nat} {v:AV} {o:Tr AObj} {R:List (List AV)} {xs:List AV} (h:AccM k lo v n o R) (hc:∀ x∈xs,x.cells.length=k/\x.cells.all AV.isCell=true) (hR:∀ x∈R,x.length=k) (hl:lo<=n) (hr:(2*(R.length+xs.length)+1024)*by_<=281474976710656/\R.length+xs.length<4611686018427387904):
 ∃ v' n' low' o',(AccM k lo v' n' o' (R++xs.map AV.cells)/\n<=n'/\(∀ id,id<lo->o'.get id=o.get id)/\(lo<=low->lo<=low'))/\∀ K:ORes->Prop,(∀ v,K (.val' v ⟨n,low,o⟩)->K (.val v))->K (.val' v' ⟨n',low',o'⟩)->qP (apF ⟨n,low,o⟩ k by_ v (some (xs.length,(xs.map AV.cells).flatten))) K:=by
 by_cases h0:R=[]/\xs=[]
 ·obtain ⟨rfl,rfl⟩:=h0
  obtain rfl:v=.nils:=by
   rcases h with ⟨_,h⟩ | ⟨h,_⟩
   ·exact h
   ·exact (h rfl).elim
  exact ⟨.nils,n,low,o,⟨.inl ⟨rfl,rfl⟩,Nat.le_refl _,fun _ _=>rfl,fun h=>h⟩,fun K h1 h2=>⟨.val .nils,rfl,h1 _ h2⟩⟩
 ·obtain ⟨v',n',low',o',q1,q2⟩:=uX (low:=low) h h0 hc hR hl hr
  exact ⟨v',n',low',o',q2,fun K _ h2=>⟨_,q1,h2⟩⟩
theorem AccM.und {k lo n:Nat} {v:AV} {o:Tr AObj} {R:List (List AV)} (h:AccM k lo v n o R):UnderE n v:=by
 rcases h with ⟨_,rfl⟩ | ⟨_,id,g,rfl,_,h,_⟩
 ·exact ⟨1,rfl⟩
 ·exact ⟨1,by simpa [AV.under] using h⟩
theorem sH {m lo n low n1 low1:Nat} {o o1:Tr AObj} (hm:m<=lo) (hl:lo<=n) (hn:n<=n1) (hk:∀ id,id<lo->o1.get id=o.get id):mB m ⟨n,low,o⟩ ⟨n1,low1,o1⟩:=fun id hid=>by
 rw [Sto.get_mk (show id<n1 by omega),Sto.get_mk (show id<n by omega)]
 exact hk id (by omega)
theorem NF {o:AV} (ho:yH o):Abs.Returns Tryz.prog 88 [o] (bL (eA o)):=by
 obtain ⟨hT,hfl,hvl⟩:=ho
 have hu:=(tk_ob o hT).1
 have hlsT:=vB hT
 unfold eA ZF at hvl ⊢
 unfold ZF at hlsT
 obtain ⟨c0,c1,vs,fs,rfl,⟨k0,rfl⟩,⟨k1,rfl⟩,hvs,hfs⟩:=hT
 have hcv:=(tu_vals vs hvs).2
 have hcf:=(gW fs hfs).2
 obtain ⟨fl,hsf,hTf⟩:=hfs
 have e2:(AV.agg [.int .i64 k0,.int .i64 k1,vs,fs]).fld 2=vs:=rfl
 have e3:((AV.agg [.int .i64 k0,.int .i64 k1,vs,fs]).fld 3).els=fl:=hsf.els
 rw [e2,e3]at hvl hlsT ⊢
 rw [e3]at hfl
 refine bW (L:=[]) aG hQv (by kernel_rfl) Tryz.func88 Tryz.ntmps88 Tryz.results88 rfl rfl (aA hu.und aF) ?_
 obtain ⟨xv,hsv,hTv⟩:=hvs
 have hap:∀ {s:Sto},zN s 2 vs=some (xv.length,(xv.map AV.cells).flatten):=fun {s}=>vA hsv (qW tk_val hTv)
 have hcat:∀ i,(bT (oV vs (fl.take i))).length<=100000:=fun i=>by
  refine Nat.le_trans ?_ hvl
  have h1:oV vs fl=oV vs (fl.take i)++NO (fl.drop i):=by
   rw [oV,oV,List.cons_append]
   congr 1
   rw [NO,NO,NO,<-List.flatten_append,<-List.map_append,List.take_append_drop]
  rw [h1,bT,bT,List.map_append,List.flatten_append,List.length_append];omega
 have hc0:bT (oV vs (fl.take 0))=xv:=by simp [oV,NO,bT,hsv.els]
 have hrow:∀ i,∀ x∈(bT (oV vs (fl.take i))).map AV.cells,x.length=2:=fun i x hx=>by
  obtain ⟨y,hy,rfl⟩:=List.mem_map.1 hx
  refine tk_val.len (lT (fun z hz=>hlsT z ?_) y hy)
  rcases List.mem_cons.1 hz with rfl | hz
  ·exact List.mem_cons_self ..
  ·refine List.mem_cons_of_mem _ ?_
   obtain ⟨l,hl,hz⟩:=List.mem_flatten.1 hz
   obtain ⟨f,hf,rfl⟩:=List.mem_map.1 hl
   exact List.mem_flatten.2 ⟨_,List.mem_map.2 ⟨f,List.mem_of_mem_take hf,rfl⟩,hz⟩
 obtain ⟨v,n,low,o,⟨hA,hn,hk,hl⟩,hrun⟩:=aEt (k:=2) (lo:=1) (by_:=16) (n:=1) (low:=0) (o:=Tr.leaf.set 0 (aX 0 [AV.int .i64 k0,AV.int .i64 k1,vs,fs])) (xs:=xv) (.inl ⟨rfl,rfl⟩) (qW tk_val hTv) (fun _ h=>nomatch h) (Nat.le_refl _) (by have:=hcat 0;rw [hc0]at this;rw [List.length_nil];omega)
 rw [List.nil_append,<-hc0]at hA
 simp +contextual +decide (maxSteps:=1000000) only [↓ wP,wQ,tf,Nat.reduceAdd,wS,reduceCtorEq,hcv,hcf,hap]
 refine hrun _ (fun _ h=>h) ?_
 have hg0:o.get 0=some (aX 0 [AV.int .i64 k0,AV.int .i64 k1,vs,fs]):=(hk 0 (by omega)).trans (Tr.get_set_same _ _ _)
 simp +contextual +decide (maxSteps:=1000000) only [↓ wP,wQ,tf,Nat.reduceAdd,wS,reduceCtorEq]
 refine aP (fun i e=>∃ t n low o v,e=⟨31,none,88,t,[],⟨n,low,o⟩,.no⟩/\t.val 1=.ptr 0 0 0/\t.val 3=v/\t.val 4=.int .i64 (i:Nat)/\o.get 0=some (aX 0 [AV.int .i64 k0,AV.int .i64 k1,vs,fs])/\1<=n/\AccM 2 1 v n o ((bT (oV vs (fl.take i))).map AV.cells)/\i<=fl.length) (fun i=>fl.length-i) 0
  ⟨_,_,_,_,v,rfl,by simp +decide only [↓ aB,aE,aC],by simp +decide only [↓ aB,aE,aC],by simp +decide only [↓ aB,aE,aC];rfl,hg0,hn,hA,Nat.zero_le _⟩ ?_
 clear hrun hk hl hA hg0 hn n low o v
 rintro i _ ⟨t,n,low,o,v,rfl,t1,t3,t4,g0,hn,hA,hi⟩
 have f0:=dR (show 0<n by omega)
 rcases Nat.lt_or_ge i fl.length with hlt | hge
 ·obtain ⟨f,hDf,hm,hgx,_,hix,hw,hcl⟩:=bK (k:=3) (fun x h=>tk_fr.len h) hTf (show fl.length<=9223372036854775807 by omega) hlt
  obtain ⟨a,b,d,rfl,⟨ka,rfl⟩,hb,hd⟩:=hDf
  have hcb:=(tu_vals b hb).2
  have hcd:=(tu_vals d hd).2
  obtain ⟨xb,hsb,hTb⟩:=hb
  obtain ⟨xd,hsd,hTd⟩:=hd
  have hapb:∀ {s:Sto},zN s 2 b=some (xb.length,(xb.map AV.cells).flatten):=fun {s}=>vA hsb (qW tk_val hTb)
  have hapd:∀ {s:Sto},zN s 2 d=some (xd.length,(xd.map AV.cells).flatten):=fun {s}=>vA hsd (qW tk_val hTd)
  have hub:=fun {n:Nat}=>(nM hsb fun x hx=>(tk_val x (hTb x hx)).1).mono (Nat.zero_le n)
  have hud:=fun {n:Nat}=>(nM hsd fun x hx=>(tk_val x (hTd x hx)).1).mono (Nat.zero_le n)
  have hsn:bT (oV vs (fl.take (i+1)))=bT (oV vs (fl.take i))++xb++xd:=by
   have:=JQ hgx
   rw [oV,this,<-List.cons_append,<-oV,bT,bT,List.map_append,List.flatten_append]
   simp [AV.fld,hsb.els,hsd.els]
  have hcv:=AccM.und hA
  have hli:=hcat (i+1)
  rw [hsn,List.length_append,List.length_append]at hli
  have hr0:=hrow i
  have hr1:∀ x∈(bT (oV vs (fl.take i))).map AV.cells++xb.map AV.cells,x.length=2:=fun x hx=>by
   rcases List.mem_append.1 hx with hx | hx
   ·exact hr0 x hx
   ·obtain ⟨y,hy,rfl⟩:=List.mem_map.1 hx;exact tk_val.len (hTb y hy)
  generalize bT (oV vs (fl.take i))=C at *
  have hCl:(C.map AV.cells).length=C.length:=List.length_map ..
  have hCl2:(C.map AV.cells++xb.map AV.cells).length=C.length+xb.length:=by rw [List.length_append,List.length_map,List.length_map]
  by_cases z0:C.map AV.cells=[]/\xb=[]
  ·obtain ⟨z0,rfl⟩:=z0
   obtain rfl:v=.nils:=by
    rcases hA with ⟨_,h⟩ | ⟨h,_⟩
    ·exact h
    ·exact (h z0).elim
   have hC:C=[]:=by simpa using z0
   subst hC
   by_cases z1:xd=[]
   ·subst z1
    simp +contextual +decide (maxSteps:=1000000) only [↓ wP,wQ,tf,Nat.reduceAdd,wS,reduceCtorEq,aJc,t1,t3,t4,g0,f0,dA,hcf,hsf.len,hsf.idx,hix,hcl,hw,hcb,hcd,hapb,hapd,hub,hud,hcv,xU,List.length_nil,List.map_nil,List.flatten_nil]
    exact ⟨i+1,by show _-_<_-_;omega,_,_,_,_,.nils,rfl,by simp +decide only [↓ aB,aE,aC,t1],by simp +decide only [↓ aB,aE,aC],by simp +decide only [↓ aB,aE,aC],g0,hn,by rw [hsn];exact .inl ⟨rfl,rfl⟩,hlt⟩
   ·obtain ⟨v2,n2,low2,o2,q2,hA2,hn2,hk2,hl2⟩:=uX (by_:=16) (low:=low) hA (fun h=>z1 h.2) (qW tk_val hTd) hr0 hn (by rw [hCl];omega)
    have ks2:mB (rO n (2001-2000)) ⟨n,low,o⟩ ⟨n2,low2,o2⟩:=sH (Nat.min_le_right _ _) hn hn2 hk2
    have g2:=(hk2 0 (by omega)).trans g0
    simp +contextual +decide (maxSteps:=1000000) only [↓ wP,wQ,tf,Nat.reduceAdd,wS,reduceCtorEq,aJc,t1,t3,t4,g0,f0,dA,hcf,hsf.len,hsf.idx,hix,hcl,hw,hcb,hcd,hapb,hapd,hub,hud,hcv,xU,q2,List.length_nil,List.map_nil,List.flatten_nil,hn2,ks2]
    refine ⟨i+1,by show _-_<_-_;omega,_,_,_,_,v2,rfl,by simp +decide only [↓ aB,aE,aC,t1],by simp +decide only [↓ aB,aE,aC],by simp +decide only [↓ aB,aE,aC],g2,by omega,?_,hlt⟩
    rw [hsn,List.append_nil,List.nil_append]
    exact hA2
  ·obtain ⟨v1,n1,low1,o1,q1,hA1,hn1,hk1,hl1⟩:=uX (by_:=16) (low:=low) hA z0 (qW tk_val hTb) hr0 hn (by omega)
   have z1:¬ (C.map AV.cells++xb.map AV.cells=[]/\xd=[]):=fun e=>z0 (by simpa using e.1)
   obtain ⟨v2,n2,low2,o2,q2,hA2,hn2,hk2,hl2⟩:=uX (by_:=16) (low:=low1) hA1 z1 (qW tk_val hTd) hr1 (by omega) (by omega)
   have hu1:=AccM.und hA1
   have g1:=(hk1 0 (by omega)).trans g0
   have f1:=dR (show 0<n1 by omega)
   have ks1:mB (rO n (2001-2000)) ⟨n,low,o⟩ ⟨n1,low1,o1⟩:=sH (Nat.min_le_right _ _) hn hn1 hk1
   have ks2:mB (rO n (2001-2000)) ⟨n1,low1,o1⟩ ⟨n2,low2,o2⟩:=sH (Nat.min_le_right _ _) (by omega) hn2 hk2
   simp +contextual +decide (maxSteps:=1000000) only [↓ wP,wQ,tf,Nat.reduceAdd,wS,reduceCtorEq,aJc,t1,t3,t4,g0,f0,dA,hcf,hsf.len,hsf.idx,hix,hcl,hw,hcb,hcd,hapb,hapd,hub,hud,q1,q2,hcv,hu1,g1,f1,hn1,hn2,ks1,ks2]
   refine ⟨i+1,by show _-_<_-_;omega,_,_,_,_,v2,rfl,by simp +decide only [↓ aB,aE,aC,t1],by simp +decide only [↓ aB,aE,aC],by simp +decide only [↓ aB,aE,aC],(hk2 0 (by omega)).trans g1,by omega,?_,hlt⟩
   rw [hsn,List.map_append,List.map_append]
   exact hA2
 ·obtain rfl:i=fl.length:=Nat.le_antisymm hi hge
  rw [List.take_length]at hA
  simp +contextual +decide (maxSteps:=1000000) only [↓ wP,wQ,tf,Nat.reduceAdd,wS,reduceCtorEq,t1,t3,t4,bE,g0,f0,hcf,hsf.len,dA]
  exact AccM.frzL tk_val (lT hlsT) hA
end
end Go.Proofs.YtdipddlhenoglaaGreat
