/-
  The references of worlds and points: what is small.
-/
import Derived.Test.YtpmccfnfikkkbaaGreatOf
set_option linter.unusedVariables false
set_option linter.unusedSimpArgs false
namespace Go.Proofs.YtpmccfnfikkkbaaGreat
open Go.Abs Go Go.Abs.TryzF
noncomputable section
set_option maxRecDepth 10000
abbrev yM:List AV->Option AV:=vE jL fun a=>.bool (decide ((a.els.length:Int)<=40))
theorem smallVals_ok:Abs.Ok Tryz.prog 31 yM:=AH fun a ha=>by
 have hua:=(bI a ha).1;obtain ⟨xs,hs,hxs⟩:=ha;rw [hs.els];refine aF (L:=[]) aE aG (by kernel_rfl) Tryz.func31 Tryz.ntmps31 Tryz.results31 rfl rfl (aA hua.und aD) aI ?_;simp +contextual +decide (maxSteps:=1000000) only [↓ wP,wQ,tf,wS,hs.len]
def kT (a:AV):Bool:=decide ((a.els.length:Int)<=40)
def xF (f:AV):Bool:=kT (f.fld 1)&&kT (f.fld 2)
def uG (o:AV):Bool:=kT (o.fld 2)&&(decide (((o.fld 3).els.length:Int)<=50)&&(o.fld 3).els.all xF)
def mT (os ts us is:List AV):Bool:=decide ((os.length:Int)<=130)&&(decide ((ts.length:Int)<=130)&&(decide ((us.length:Int)<=110)&&(decide ((is.length:Int)<=60)&&os.all uG)))
def wg (os ts us is no:AV):AV:=.agg [os,ts,us,is,no]
structure WG (os ts us is no:AV):Prop where
 os:TSl CO os
 ts:kP ts
 us:TSl wG us
 is:kP is
 no:dO no
section
variable {os ts us is no:AV}
theorem WG.wd (h:WG os ts us is no):BS (wg os ts us is no):=⟨_,_,_,_,_,rfl,h.os,h.ts,h.us,h.is,h.no⟩
theorem WG.cells (h:WG os ts us is no):os.isCell=true/\ts.isCell=true/\us.isCell=true/\is.isCell=true/\no.isCell=true:=⟨(mI _ h.os).2,(aV _ h.ts).2,(kK _ h.us).2,(aV _ h.is).2,(tu_int _ h.no).2⟩
theorem WG.und (h:WG os ts us is no):UnderE 0 (wg os ts us is no):=(tk_wd _ h.wd).1
set_option maxHeartbeats 16000000 in
theorem HJ (h:WG os ts us is no):Abs.Returns Tryz.prog 10 [wg os ts us is no] (.bool (mT os.els ts.els us.els is.els)):=by
 obtain ⟨c1,c2,c3,c4,c5⟩:=h.cells;refine aF (L:=[ent 31 yM]) (elist_cons smallVals_ok.ent aE) aG (by kernel_rfl) Tryz.func10 Tryz.ntmps10 Tryz.results10 rfl rfl (aA h.und.und aD) aI ?_;obtain ⟨xo,ho0,hox⟩:=h.os;obtain ⟨xt,ht0,htx⟩:=h.ts;obtain ⟨xu,hu0,hux⟩:=h.us;obtain ⟨xi,hi0,hix0⟩:=h.is;rw [ho0.els,ht0.els,hu0.els,hi0.els];have hsp:mT xo xt xu xi=(decide ((xo.length:Int)<=130)&&(decide ((xt.length:Int)<=130)&&(decide ((xu.length:Int)<=110)&&(decide ((xi.length:Int)<=60)&&xo.all uG)))):=rfl;generalize mT xo xt xu xi=W at *;unfold wg;by_cases k1:((xo.length:Nat):Int) > 130
 ·rw [decide_eq_false (show ¬ ((xo.length:Nat):Int)<=130 by omega),Bool.false_and]at hsp
  simp +contextual +decide (maxSteps:=1000000) only [↓ wP,wQ,tf,Nat.reduceAdd,wS,c1,c2,c3,c4,c5,ho0.len,k1,hsp]
 by_cases k2:((xt.length:Nat):Int) > 130
 ·rw [decide_eq_false (show ¬ ((xt.length:Nat):Int)<=130 by omega),Bool.false_and,Bool.and_false]at hsp
  simp +contextual +decide (maxSteps:=1000000) only [↓ wP,wQ,tf,Nat.reduceAdd,wS,c1,c2,c3,c4,c5,ho0.len,ht0.len,k1,k2,hsp]
 by_cases k3:((xu.length:Nat):Int) > 110
 ·rw [decide_eq_false (show ¬ ((xu.length:Nat):Int)<=110 by omega),Bool.false_and,Bool.and_false,Bool.and_false]at hsp
  simp +contextual +decide (maxSteps:=1000000) only [↓ wP,wQ,tf,Nat.reduceAdd,wS,c1,c2,c3,c4,c5,ho0.len,ht0.len,hu0.len,k1,k2,k3,hsp]
 by_cases k4:((xi.length:Nat):Int) > 60
 ·rw [decide_eq_false (show ¬ ((xi.length:Nat):Int)<=60 by omega),Bool.false_and,Bool.and_false,Bool.and_false,Bool.and_false]at hsp
  simp +contextual +decide (maxSteps:=1000000) only [↓ wP,wQ,tf,Nat.reduceAdd,wS,c1,c2,c3,c4,c5,ho0.len,ht0.len,hu0.len,hi0.len,k1,k2,k3,k4,hsp]
 rw [decide_eq_true (show ((xo.length:Nat):Int)<=130 by omega),Bool.true_and,decide_eq_true (show ((xt.length:Nat):Int)<=130 by omega),Bool.true_and,decide_eq_true (show ((xu.length:Nat):Int)<=110 by omega),Bool.true_and,decide_eq_true (show ((xi.length:Nat):Int)<=60 by omega),Bool.true_and]at hsp;simp +contextual +decide (maxSteps:=1000000) only [↓ wP,wQ,tf,Nat.reduceAdd,wS,c1,c2,c3,c4,c5,ho0.len,ht0.len,hu0.len,hi0.len,k1,k2,k3,k4];refine aN (fun i e=>∃ t n low o,e=⟨75,none,10,t,[],⟨n,low,o⟩,.no⟩/\t.val 1=.ptr 0 0 0/\t.val 3=.int .i64 (i:Nat)/\o.get 0=some (aW 0 [os,ts,us,is,no])/\1<=n/\i<=xo.length/\W=(xo.drop i).all uG) (fun i=>xo.length-i) 0 ⟨_,_,_,_,rfl,by simp +decide only [↓ aB],by simp +decide only [↓ aB];rfl,by simp +decide only [↓ aB],by omega,Nat.zero_le _,hsp⟩ ?_;rintro i _ ⟨t,n,low,o,rfl,t1,t3,g0,hn,hi,hq⟩;have f0:=bK (show 0<n by omega)
 rcases Nat.lt_or_ge i xo.length with hlt | hge
 ·obtain ⟨y,hDy,hm,hg,hd,hix,hw,hc⟩:=cO (fun x h=>tk_ob.len h) hox ho0.2 hlt
  have hpf:=fun {d:Option AV}=>tk_ob.pf hDy (d:=d)
  rw [hd,List.all_cons]at hq;obtain ⟨_,_,va,fr,rfl,⟨ki,rfl⟩,⟨nn,rfl⟩,hva,hfr⟩:=hDy;have cv:=(bI _ hva).2;have cf:=(lE _ hfr).2;have hva0:yM [va]=some (.bool (kT va)):=cY hva;obtain ⟨xr,hr0,hrx⟩:=hfr;rw [show uG (.agg [.int .i64 ki,.int .i64 nn,va,fr])=(kT va&&(decide ((xr.length:Int)<=50)&&xr.all xF)) by rw [<-hr0.els];rfl]at hq
  cases k5:kT va with
  | false=>
    rw [k5,Bool.false_and,Bool.false_and]at hq;simp +contextual +decide (maxSteps:=1000000) only [↓ wP,wQ,tf,Nat.reduceAdd,wS,t1,t3,g0,f0,cv,cf,ho0.len,ho0.idx,hix,hc,hpf,hva0,k5,dC,hq]
  | true=>
  rw [k5,Bool.true_and]at hq;by_cases k6:((xr.length:Nat):Int) > 50
  ·rw [decide_eq_false (show ¬ ((xr.length:Nat):Int)<=50 by omega),Bool.false_and,Bool.false_and]at hq
   simp +contextual +decide (maxSteps:=1000000) only [↓ wP,wQ,tf,Nat.reduceAdd,wS,t1,t3,g0,f0,cv,cf,ho0.len,ho0.idx,hix,hc,hpf,hva0,k5,hr0.len,k6,dC,hq]
  rw [decide_eq_true (show ((xr.length:Nat):Int)<=50 by omega),Bool.true_and]at hq;simp +contextual +decide (maxSteps:=1000000) only [↓ wP,wQ,tf,Nat.reduceAdd,wS,t1,t3,g0,f0,cv,cf,ho0.len,ho0.idx,hix,hc,hpf,hva0,k5,hr0.len,k6,dC]
  refine aN (fun j e=>∃ t k low o m,e=⟨75,none,10,t,[],⟨k,low,o⟩,.no⟩/\t.val 1=.ptr 0 0 0/\t.val 3=.int .i64 (i:Nat)/\t.val 4=.ptr m 0 0/\t.val 5=.int .i64 (j:Nat)/\o.get 0=some (aW 0 [os,ts,us,is,no])/\o.get m=some (aW 0 [.int .i64 ki,.int .i64 nn,va,fr])/\0<k/\m<k/\j<=xr.length/\W=((xr.drop j).all xF&&(xo.drop (i+1)).all uG)) (fun j=>xr.length-j) 0
   ⟨_,_,_,_,n,rfl,by simp +decide only [↓ aB,t1],by simp +decide only [↓ aB,t3],by simp +decide only [↓ aB],by simp +decide only [↓ aB];rfl,by simp +decide only [↓ aB,aZ,ne_eq,g0,f0],by simp +decide only [↓ aB],by omega,by omega,Nat.zero_le _,hq⟩ ?_
  clear t1 t3 g0 f0 hq hn;clear t;rintro j _ ⟨t,k,low,o,m,rfl,t1,t3,t4,t5,g0,gm,hk1,hk2,hj,hq⟩;have f0:=bK hk1;have fm:=bK hk2
  rcases Nat.lt_or_ge j xr.length with hjt | hjg
  ·obtain ⟨y2,hDy2,hm2,hg2,hd2,hix2,hw2,hc2⟩:=cO (fun x h=>tk_fr.len h) hrx hr0.2 hjt
   rw [hd2,List.all_cons]at hq;obtain ⟨_,va1,va2,rfl,⟨ni,rfl⟩,h1,h2⟩:=hDy2;have e1:yM [va1]=some (.bool (kT va1)):=cY h1;have e2:yM [va2]=some (.bool (kT va2)):=cY h2;have cv1:=(bI _ h1).2;have cv2:=(bI _ h2).2;rw [show xF (.agg [.int .i64 ni,va1,va2])=(kT va1&&kT va2) from rfl]at hq
   cases k7:kT va1 with
   | false=>
     rw [k7,Bool.false_and,Bool.false_and]at hq;simp +contextual +decide (maxSteps:=1000000) only [↓ wP,wQ,tf,Nat.reduceAdd,wS,t4,t5,gm,fm,cv1,hr0.len,hr0.idx,hix2,hc2,e1,k7,hq]
   | true=>
   rw [k7,Bool.true_and]at hq
   cases k8:kT va2 with
   | false=>
     rw [k8,Bool.false_and]at hq;simp +contextual +decide (maxSteps:=1000000) only [↓ wP,wQ,tf,Nat.reduceAdd,wS,t4,t5,gm,fm,cv1,cv2,hr0.len,hr0.idx,hix2,hc2,e1,k7,e2,k8,hq]
   | true=>
   rw [k8,Bool.true_and]at hq;simp +contextual +decide (maxSteps:=1000000) only [↓ wP,wQ,tf,Nat.reduceAdd,wS,t4,t5,gm,fm,cv1,cv2,hr0.len,hr0.idx,hix2,hc2,e1,k7,e2,k8,hw2];exact ⟨j+1,by show _-_<_-_;omega,_,_,_,_,_,rfl,by simp +decide only [↓ aB,t1],by simp +decide only [↓ aB,t3],by simp +decide only [↓ aB,t4],by simp +decide only [↓ aB],by simp +decide only [g0],by simp +decide only [gm],hk1,hk2,hjt,hq⟩
  ·obtain rfl:j=xr.length:=Nat.le_antisymm hj hjg
   rw [List.drop_length,List.all_nil,Bool.true_and]at hq;simp +contextual +decide (maxSteps:=1000000) only [↓ wP,wQ,tf,Nat.reduceAdd,wS,t3,t4,t5,gm,fm,hr0.len,bP,hw];exact ⟨i+1,by show _-_<_-_;omega,_,_,_,_,rfl,by simp +decide only [↓ aB,t1],by simp +decide only [↓ aB],by simp +decide only [g0],hk1,hlt,hq⟩
 ·obtain rfl:i=xo.length:=Nat.le_antisymm hi hge
  rw [List.drop_length,List.all_nil]at hq;simp +contextual +decide (maxSteps:=1000000) only [↓ wP,wQ,tf,Nat.reduceAdd,wS,t1,t3,g0,f0,ho0.len,bP,hq]
end
abbrev LH:List AV->Option AV:=vE BS fun a=>.bool (mT (a.fld 0).els (a.fld 1).els (a.fld 2).els (a.fld 3).els)
theorem smallWV_ok:Abs.Ok Tryz.prog 10 LH:=AH fun a ⟨os,ts,us,is,no,e,h1,h2,h3,h4,h5⟩=>by
 subst e;exact HJ ⟨h1,h2,h3,h4,h5⟩
abbrev UQ:=TSl aIt
theorem yN:Tu UQ:=gW (AG XZ)
def stg (os ts us is no os' ts' us' is' no' d g:AV):AV:=.agg [os,ts,us,is,no,os',ts',us',is',no',d,g]
structure SG (os ts us is no os' ts' us' is' no' d g:AV):Prop where
 w:WG os ts us is no
 s:WG os' ts' us' is' no'
 d:UQ d
 g:UQ g
section
variable {os ts us is no os' ts' us' is' no' d g:AV}
theorem SG.cells (h:SG os ts us is no os' ts' us' is' no' d g):d.isCell=true/\g.isCell=true:=⟨(yN _ h.d).2,(yN _ h.g).2⟩
theorem SG.und (h:SG os ts us is no os' ts' us' is' no' d g):UnderE 0 (stg os ts us is no os' ts' us' is' no' d g):=by
 refine dM fun x hx=>?_
 simp only [List.mem_cons,List.not_mem_nil,or_false]at hx
 rcases hx with rfl | rfl | rfl | rfl | rfl | rfl | rfl | rfl | rfl | rfl | rfl | rfl
 ·exact (mI _ h.w.os).1
 ·exact (aV _ h.w.ts).1
 ·exact (kK _ h.w.us).1
 ·exact (aV _ h.w.is).1
 ·exact (tu_int _ h.w.no).1
 ·exact (mI _ h.s.os).1
 ·exact (aV _ h.s.ts).1
 ·exact (kK _ h.s.us).1
 ·exact (aV _ h.s.is).1
 ·exact (tu_int _ h.s.no).1
 ·exact (yN _ h.d).1
 ·exact (yN _ h.g).1
end
def aTl (v:AV):Int × Int:=((v.fld 0).num,(v.fld 1).num)
def aGy (a b:List AV):Bool:=decide (a.map aTl=b.map aTl)
def aTm (f g:AV):Bool:=decide ((f.fld 0).num=(g.fld 0).num)&&(aGy (f.fld 1).els (g.fld 1).els&&aGy (f.fld 2).els (g.fld 2).els)
def aGz:List AV->List AV->Bool
 | [],[]=>true
 | f::l,g::m=>aTm f g&&aGz l m
 | _,_=>false
def aNx (a b:AV):Bool:=decide ((a.fld 0).num=(b.fld 0).num)&&(decide ((a.fld 1).num=(b.fld 1).num)&&(aGy (a.fld 2).els (b.fld 2).els&&aGz (a.fld 3).els (b.fld 3).els))
def aTn:AV:=.agg [.int .i64 0,.int .i64 0,.nils,.nils]
def aTo (o:AV):Bool:=aNx o aTn
end
end Go.Proofs.YtpmccfnfikkkbaaGreat
