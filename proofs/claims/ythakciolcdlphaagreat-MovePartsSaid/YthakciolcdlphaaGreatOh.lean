/-
  The references of worlds and points: what is small.
-/
import Derived.Test.YthakciolcdlphaaGreatOf
set_option linter.unusedVariables false
set_option linter.unusedSimpArgs false
namespace Go.Proofs.YthakciolcdlphaaGreat
open Go.Abs Go Go.Abs.TryzF
noncomputable section
set_option maxRecDepth 10000
abbrev uI:List AV->Option AV:=tB kB fun a=>.bool (decide ((a.els.length:Int)<=40))
theorem smallVals_ok:Abs.Ok Tryz.prog 78 uI:=yR fun a ha=>by
 have hua:=(tu_vals a ha).1
 obtain ⟨xs,hs,hxs⟩:=ha
 rw [hs.els]
 refine aH (L:=[]) aG aN (by kernel_rfl) Tryz.func78 Tryz.ntmps78 Tryz.results78 rfl rfl (aC hua.und aF) aJ ?_
 simp +contextual +decide (maxSteps:=1000000) only [↓ wP,wQ,tf,Nat.reduceAdd,wS,reduceCtorEq,hs.len]
def gM (a:AV):Bool:=decide ((a.els.length:Int)<=40)
def rZ (f:AV):Bool:=gM (f.fld 1)&&gM (f.fld 2)
def oT (o:AV):Bool:=gM (o.fld 2)&&(decide (((o.fld 3).els.length:Int)<=50)&&(o.fld 3).els.all rZ)
def jM (os ts us is:List AV):Bool:=decide ((os.length:Int)<=130)&&(decide ((ts.length:Int)<=130)&&(decide ((us.length:Int)<=110)&&(decide ((is.length:Int)<=60)&&os.all oT)))
def wg (os ts us is no:AV):AV:=.agg [os,ts,us,is,no]
structure WG (os ts us is no:AV):Prop where
 os:TSl sW os
 ts:fI ts
 us:TSl uT us
 is:fI is
 no:cI no
section
variable {os ts us is no:AV}
theorem WG.wd (h:WG os ts us is no):TWd (wg os ts us is no):=⟨_,_,_,_,_,rfl,h.os,h.ts,h.us,h.is,h.no⟩
theorem WG.cells (h:WG os ts us is no):os.isCell=true/\ts.isCell=true/\us.isCell=true/\is.isCell=true/\no.isCell=true:=⟨(nC _ h.os).2,(aR _ h.ts).2,(jN _ h.us).2,(aR _ h.is).2,(tu_int _ h.no).2⟩
theorem WG.und (h:WG os ts us is no):UnderE 0 (wg os ts us is no):=(tA _ h.wd).1
set_option maxHeartbeats 16000000 in
theorem CS (h:WG os ts us is no):Abs.Returns Tryz.prog 38 [wg os ts us is no] (.bool (jM os.els ts.els us.els is.els)):=by
 obtain ⟨c1,c2,c3,c4,c5⟩:=h.cells
 refine aH (L:=[ent 78 uI]) (elist_cons smallVals_ok.ent aG) aN (by kernel_rfl) Tryz.func38 Tryz.ntmps38 Tryz.results38 rfl rfl (aC h.und.und aF) aJ ?_
 obtain ⟨xo,ho0,hox⟩:=h.os
 obtain ⟨xt,ht0,htx⟩:=h.ts
 obtain ⟨xu,hu0,hux⟩:=h.us
 obtain ⟨xi,hi0,hix0⟩:=h.is
 rw [ho0.els,ht0.els,hu0.els,hi0.els]
 have hsp:jM xo xt xu xi=(decide ((xo.length:Int)<=130)&&(decide ((xt.length:Int)<=130)&&(decide ((xu.length:Int)<=110)&&(decide ((xi.length:Int)<=60)&&xo.all oT)))):=rfl
 generalize jM xo xt xu xi=W at *
 unfold wg
 by_cases k1:((xo.length:Nat):Int) > 130
 ·rw [decide_eq_false (show ¬ ((xo.length:Nat):Int)<=130 by omega),Bool.false_and]at hsp
  simp +contextual +decide (maxSteps:=1000000) only [↓ wP,wQ,tf,Nat.reduceAdd,wS,reduceCtorEq,c1,c2,c3,c4,c5,ho0.len,k1,hsp]
 by_cases k2:((xt.length:Nat):Int) > 130
 ·rw [decide_eq_false (show ¬ ((xt.length:Nat):Int)<=130 by omega),Bool.false_and,Bool.and_false]at hsp
  simp +contextual +decide (maxSteps:=1000000) only [↓ wP,wQ,tf,Nat.reduceAdd,wS,reduceCtorEq,c1,c2,c3,c4,c5,ho0.len,ht0.len,k1,k2,hsp]
 by_cases k3:((xu.length:Nat):Int) > 110
 ·rw [decide_eq_false (show ¬ ((xu.length:Nat):Int)<=110 by omega),Bool.false_and,Bool.and_false,Bool.and_false]at hsp
  simp +contextual +decide (maxSteps:=1000000) only [↓ wP,wQ,tf,Nat.reduceAdd,wS,reduceCtorEq,c1,c2,c3,c4,c5,ho0.len,ht0.len,hu0.len,k1,k2,k3,hsp]
 by_cases k4:((xi.length:Nat):Int) > 60
 ·rw [decide_eq_false (show ¬ ((xi.length:Nat):Int)<=60 by omega),Bool.false_and,Bool.and_false,Bool.and_false,Bool.and_false]at hsp
  simp +contextual +decide (maxSteps:=1000000) only [↓ wP,wQ,tf,Nat.reduceAdd,wS,reduceCtorEq,c1,c2,c3,c4,c5,ho0.len,ht0.len,hu0.len,hi0.len,k1,k2,k3,k4,hsp]
 rw [decide_eq_true (show ((xo.length:Nat):Int)<=130 by omega),Bool.true_and,decide_eq_true (show ((xt.length:Nat):Int)<=130 by omega),Bool.true_and,decide_eq_true (show ((xu.length:Nat):Int)<=110 by omega),Bool.true_and,decide_eq_true (show ((xi.length:Nat):Int)<=60 by omega),Bool.true_and]at hsp
 simp +contextual +decide (maxSteps:=1000000) only [↓ wP,wQ,tf,Nat.reduceAdd,wS,reduceCtorEq,c1,c2,c3,c4,c5,ho0.len,ht0.len,hu0.len,hi0.len,k1,k2,k3,k4]
 refine aQ (fun i e=>∃ t n low o,e=⟨75,none,38,t,[],⟨n,low,o⟩,.no⟩/\t.val 1=.ptr 0 0 0/\t.val 3=.int .i64 (i:Nat)/\o.get 0=some (aU 0 [os,ts,us,is,no])/\1<=n/\i<=xo.length/\W=(xo.drop i).all oT) (fun i=>xo.length-i) 0 ⟨_,_,_,_,rfl,by simp +decide only [↓ aA,aE,aB],by simp +decide only [↓ aA,aE,aB];rfl,by simp +decide only [↓ aA,aL,aB,ne_eq],by omega,Nat.zero_le _,hsp⟩ ?_
 rintro i _ ⟨t,n,low,o,rfl,t1,t3,g0,hn,hi,hq⟩
 have f0:=eY (show 0<n by omega)
 rcases Nat.lt_or_ge i xo.length with hlt | hge
 ·obtain ⟨y,hDy,hm,hg,hd,hix,hw,hc⟩:=bK (fun x h=>tk_ob.len h) hox ho0.2 hlt
  have hpf:=fun {d:Option AV}=>tk_ob.pf hDy (d:=d)
  rw [hd,List.all_cons]at hq
  obtain ⟨_,_,va,fr,rfl,⟨ki,rfl⟩,⟨nn,rfl⟩,hva,hfr⟩:=hDy
  have cv:=(tu_vals _ hva).2
  have cf:=(fC _ hfr).2
  have hva0:uI [va]=some (.bool (gM va)):=cR hva
  obtain ⟨xr,hr0,hrx⟩:=hfr
  rw [show oT (.agg [.int .i64 ki,.int .i64 nn,va,fr])=(gM va&&(decide ((xr.length:Int)<=50)&&xr.all rZ)) by rw [<-hr0.els];rfl]at hq
  cases k5:gM va with
  | false=>
    rw [k5,Bool.false_and,Bool.false_and]at hq
    simp +contextual +decide (maxSteps:=1000000) only [↓ wP,wQ,tf,Nat.reduceAdd,wS,reduceCtorEq,t1,t3,g0,f0,c1,c2,c3,c4,c5,cv,cf,ho0.len,ho0.idx,hix,hc,hpf,hva0,k5,cG,hq]
  | true=>
  rw [k5,Bool.true_and]at hq
  by_cases k6:((xr.length:Nat):Int) > 50
  ·rw [decide_eq_false (show ¬ ((xr.length:Nat):Int)<=50 by omega),Bool.false_and,Bool.false_and]at hq
   simp +contextual +decide (maxSteps:=1000000) only [↓ wP,wQ,tf,Nat.reduceAdd,wS,reduceCtorEq,t1,t3,g0,f0,c1,c2,c3,c4,c5,cv,cf,ho0.len,ho0.idx,hix,hc,hpf,hva0,k5,hr0.len,k6,cG,hq]
  rw [decide_eq_true (show ((xr.length:Nat):Int)<=50 by omega),Bool.true_and]at hq
  simp +contextual +decide (maxSteps:=1000000) only [↓ wP,wQ,tf,Nat.reduceAdd,wS,reduceCtorEq,t1,t3,g0,f0,c1,c2,c3,c4,c5,cv,cf,ho0.len,ho0.idx,hix,hc,hpf,hva0,k5,hr0.len,k6,cG]
  refine aQ (fun j e=>∃ t k low o m,e=⟨75,none,38,t,[],⟨k,low,o⟩,.no⟩/\t.val 1=.ptr 0 0 0/\t.val 3=.int .i64 (i:Nat)/\t.val 4=.ptr m 0 0/\t.val 5=.int .i64 (j:Nat)/\o.get 0=some (aU 0 [os,ts,us,is,no])/\o.get m=some (aU 0 [.int .i64 ki,.int .i64 nn,va,fr])/\0<k/\m<k/\j<=xr.length/\W=((xr.drop j).all rZ&&(xo.drop (i+1)).all oT)) (fun j=>xr.length-j) 0
   ⟨_,_,_,_,n,rfl,by simp +decide only [↓ aA,aE,aB,t1],by simp +decide only [↓ aA,aE,aB,t3],by simp +decide only [↓ aA,aE,aB],by simp +decide only [↓ aA,aE,aB];rfl,by simp +decide only [↓ aA,aL,aB,ne_eq,g0,f0,cG],by simp +decide only [↓ aA,aL,aB,ne_eq,cG],by omega,by omega,Nat.zero_le _,hq⟩ ?_
  clear t1 t3 g0 f0 hq hn
  clear t
  rintro j _ ⟨t,k,low,o,m,rfl,t1,t3,t4,t5,g0,gm,hk1,hk2,hj,hq⟩
  have f0:=eY hk1
  have fm:=eY hk2
  rcases Nat.lt_or_ge j xr.length with hjt | hjg
  ·obtain ⟨y2,hDy2,hm2,hg2,hd2,hix2,hw2,hc2⟩:=bK (fun x h=>tk_fr.len h) hrx hr0.2 hjt
   rw [hd2,List.all_cons]at hq
   obtain ⟨_,va1,va2,rfl,⟨ni,rfl⟩,h1,h2⟩:=hDy2
   have e1:uI [va1]=some (.bool (gM va1)):=cR h1
   have e2:uI [va2]=some (.bool (gM va2)):=cR h2
   have cv1:=(tu_vals _ h1).2
   have cv2:=(tu_vals _ h2).2
   rw [show rZ (.agg [.int .i64 ni,va1,va2])=(gM va1&&gM va2) from rfl]at hq
   cases k7:gM va1 with
   | false=>
     rw [k7,Bool.false_and,Bool.false_and]at hq
     simp +contextual +decide (maxSteps:=1000000) only [↓ wP,wQ,tf,Nat.reduceAdd,wS,reduceCtorEq,t1,t3,t4,t5,g0,gm,f0,fm,cv,cf,cv1,cv2,hr0.len,hr0.idx,hix2,hc2,e1,k7,hq]
   | true=>
   rw [k7,Bool.true_and]at hq
   cases k8:gM va2 with
   | false=>
     rw [k8,Bool.false_and]at hq
     simp +contextual +decide (maxSteps:=1000000) only [↓ wP,wQ,tf,Nat.reduceAdd,wS,reduceCtorEq,t1,t3,t4,t5,g0,gm,f0,fm,cv,cf,cv1,cv2,hr0.len,hr0.idx,hix2,hc2,e1,k7,e2,k8,hq]
   | true=>
   rw [k8,Bool.true_and]at hq
   simp +contextual +decide (maxSteps:=1000000) only [↓ wP,wQ,tf,Nat.reduceAdd,wS,reduceCtorEq,t1,t3,t4,t5,g0,gm,f0,fm,cv,cf,cv1,cv2,hr0.len,hr0.idx,hix2,hc2,e1,k7,e2,k8,hw2]
   exact ⟨j+1,by show _-_<_-_;omega,_,_,_,_,_,rfl,by simp +decide only [↓ aA,aE,aB,t1],by simp +decide only [↓ aA,aE,aB,t3],by simp +decide only [↓ aA,aE,aB,t4],by simp +decide only [↓ aA,aE,aB],by simp +decide only [↓ aA,aL,aB,ne_eq,g0,f0],by simp +decide only [↓ aA,aL,aB,ne_eq,gm,fm],hk1,hk2,hjt,hq⟩
  ·obtain rfl:j=xr.length:=Nat.le_antisymm hj hjg
   rw [List.drop_length,List.all_nil,Bool.true_and]at hq
   simp +contextual +decide (maxSteps:=1000000) only [↓ wP,wQ,tf,Nat.reduceAdd,wS,reduceCtorEq,t1,t3,t4,t5,g0,gm,f0,fm,cv,cf,hr0.len,bG,hw]
   exact ⟨i+1,by show _-_<_-_;omega,_,_,_,_,rfl,by simp +decide only [↓ aA,aE,aB,t1],by simp +decide only [↓ aA,aE,aB],by simp +decide only [↓ aA,aL,aB,ne_eq,g0,f0],hk1,hlt,hq⟩
 ·obtain rfl:i=xo.length:=Nat.le_antisymm hi hge
  rw [List.drop_length,List.all_nil]at hq
  simp +contextual +decide (maxSteps:=1000000) only [↓ wP,wQ,tf,Nat.reduceAdd,wS,reduceCtorEq,t1,t3,g0,f0,c1,c2,c3,c4,c5,ho0.len,bG,hq]
end
abbrev FA:List AV->Option AV:=tB TWd fun a=>.bool (jM (a.fld 0).els (a.fld 1).els (a.fld 2).els (a.fld 3).els)
theorem smallWV_ok:Abs.Ok Tryz.prog 38 FA:=yR fun a ⟨os,ts,us,is,no,e,h1,h2,h3,h4,h5⟩=>by
 subst e;exact CS ⟨h1,h2,h3,h4,h5⟩
abbrev MP:=TSl ZZ
theorem uJ:Tu MP:=iH (AZ QV)
def stg (os ts us is no os' ts' us' is' no' d g:AV):AV:=.agg [os,ts,us,is,no,os',ts',us',is',no',d,g]
structure SG (os ts us is no os' ts' us' is' no' d g:AV):Prop where
 w:WG os ts us is no
 s:WG os' ts' us' is' no'
 d:MP d
 g:MP g
section
variable {os ts us is no os' ts' us' is' no' d g:AV}
theorem SG.cells (h:SG os ts us is no os' ts' us' is' no' d g):d.isCell=true/\g.isCell=true:=⟨(uJ _ h.d).2,(uJ _ h.g).2⟩
theorem SG.und (h:SG os ts us is no os' ts' us' is' no' d g):UnderE 0 (stg os ts us is no os' ts' us' is' no' d g):=by
 refine eM fun x hx=>?_
 simp only [List.mem_cons,List.not_mem_nil,or_false]at hx
 rcases hx with rfl | rfl | rfl | rfl | rfl | rfl | rfl | rfl | rfl | rfl | rfl | rfl
 ·exact (nC _ h.w.os).1
 ·exact (aR _ h.w.ts).1
 ·exact (jN _ h.w.us).1
 ·exact (aR _ h.w.is).1
 ·exact (tu_int _ h.w.no).1
 ·exact (nC _ h.s.os).1
 ·exact (aR _ h.s.ts).1
 ·exact (jN _ h.s.us).1
 ·exact (aR _ h.s.is).1
 ·exact (tu_int _ h.s.no).1
 ·exact (uJ _ h.d).1
 ·exact (uJ _ h.g).1
end
end
end Go.Proofs.YthakciolcdlphaaGreat
/-
 The reference of worlds: whether objects are alike,at last.
-/
namespace Go.Proofs.YthakciolcdlphaaGreat
open Go.Abs Go Go.Abs.TryzF
noncomputable section
set_option maxRecDepth 10000
end
end Go.Proofs.YthakciolcdlphaaGreat
