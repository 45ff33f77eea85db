/-
  The references of worlds and points: what is small.
-/
import Derived.Test.YtginbapbkjhnjaaGreatOf
set_option linter.unusedVariables false
set_option linter.unusedSimpArgs false
namespace Go.Proofs.YtginbapbkjhnjaaGreat
open Go.Abs Go Go.Abs.TryzF
noncomputable section
set_option maxRecDepth 10000
abbrev sM:List AV->Option AV:=rA kI fun a=>.bool (decide ((a.els.length:Int)<=40))
theorem smallVals_ok:Abs.Ok Tryz.prog 49 sM:=vQ fun a ha=>by
 have hua:=(aT a ha).1
 obtain ⟨xs,hs,hxs⟩:=ha
 rw [hs.els]
 refine aH (L:=[]) aG aO (by kernel_rfl) Tryz.func49 Tryz.ntmps49 Tryz.results49 rfl rfl (aA hua.und aF) aL ?_
 simp +contextual +decide (maxSteps:=1000000) only [↓ wP,wQ,tf,Nat.reduceAdd,wS,reduceCtorEq,hs.len]
def gS (a:AV):Bool:=decide ((a.els.length:Int)<=40)
def sN (f:AV):Bool:=gS (f.fld 1)&&gS (f.fld 2)
def nF (o:AV):Bool:=gS (o.fld 2)&&(decide (((o.fld 3).els.length:Int)<=50)&&(o.fld 3).els.all sN)
def lD (os ts us is:List AV):Bool:=decide ((os.length:Int)<=130)&&(decide ((ts.length:Int)<=130)&&(decide ((us.length:Int)<=110)&&(decide ((is.length:Int)<=60)&&os.all nF)))
def wg (os ts us is no:AV):AV:=.agg [os,ts,us,is,no]
structure WG (os ts us is no:AV):Prop where
 os:TSl vM os
 ts:fF ts
 us:TSl oP us
 is:fF is
 no:cD no
section
variable {os ts us is no:AV}
theorem WG.wd (h:WG os ts us is no):AX (wg os ts us is no):=⟨_,_,_,_,_,rfl,h.os,h.ts,h.us,h.is,h.no⟩
theorem WG.cells (h:WG os ts us is no):os.isCell=true/\ts.isCell=true/\us.isCell=true/\is.isCell=true/\no.isCell=true:=⟨(fM _ h.os).2,(aP _ h.ts).2,(cV _ h.us).2,(aP _ h.is).2,(tu_int _ h.no).2⟩
theorem WG.und (h:WG os ts us is no):UnderE 0 (wg os ts us is no):=(eR _ h.wd).1
set_option maxHeartbeats 16000000 in
theorem zT (h:WG os ts us is no):Abs.Returns Tryz.prog 16 [wg os ts us is no] (.bool (lD os.els ts.els us.els is.els)):=by
 obtain ⟨c1,c2,c3,c4,c5⟩:=h.cells
 refine aH (L:=[ent 49 sM]) (elist_cons smallVals_ok.ent aG) aO (by kernel_rfl) Tryz.func16 Tryz.ntmps16 Tryz.results16 rfl rfl (aA h.und.und aF) aL ?_
 obtain ⟨xo,ho0,hox⟩:=h.os
 obtain ⟨xt,ht0,htx⟩:=h.ts
 obtain ⟨xu,hu0,hux⟩:=h.us
 obtain ⟨xi,hi0,hix0⟩:=h.is
 rw [ho0.els,ht0.els,hu0.els,hi0.els]
 have hsp:lD xo xt xu xi=(decide ((xo.length:Int)<=130)&&(decide ((xt.length:Int)<=130)&&(decide ((xu.length:Int)<=110)&&(decide ((xi.length:Int)<=60)&&xo.all nF)))):=rfl
 generalize lD xo xt xu xi=W at *
 unfold wg
 by_cases k1:((xo.length:Nat):Int) > 130
 ·rw [decide_eq_false (show ¬ ((xo.length:Nat):Int)<=130 by omega),Bool.false_and]at hsp
  simp +contextual +decide (maxSteps:=1000000) only [↓ wP,wQ,tf,Nat.reduceAdd,wS,reduceCtorEq,c1,c2,c3,c4,c5,ho0.len,k1,hsp]
 by_cases k2:((xt.length:Nat):Int) > 130
 ·rw [decide_eq_false (show ¬ ((xt.length:Nat):Int)<=130 by omega),Bool.false_and,Bool.and_false]at hsp
  simp +contextual +decide (maxSteps:=1000000) only [↓ wP,wQ,tf,Nat.reduceAdd,wS,reduceCtorEq,c1,c2,c3,c4,c5,ho0.len,ht0.len,k1,k2,hsp]
 by_cases k3:((xu.length:Nat):Int) > 110
 ·rw [decide_eq_false (show ¬ ((xu.length:Nat):Int)<=110 by omega),Bool.false_and,Bool.and_false,Bool.and_false]at hsp
  simp +contextual +decide (maxSteps:=1000000) only [↓ wP,wQ,tf,Nat.reduceAdd,wS,reduceCtorEq,c1,c2,c3,c4,c5,ho0.len,ht0.len,hu0.len,k1,k2,k3,hsp]
 by_cases k4:((xi.length:Nat):Int) > 60
 ·rw [decide_eq_false (show ¬ ((xi.length:Nat):Int)<=60 by omega),Bool.false_and,Bool.and_false,Bool.and_false,Bool.and_false]at hsp
  simp +contextual +decide (maxSteps:=1000000) only [↓ wP,wQ,tf,Nat.reduceAdd,wS,reduceCtorEq,c1,c2,c3,c4,c5,ho0.len,ht0.len,hu0.len,hi0.len,k1,k2,k3,k4,hsp]
 rw [decide_eq_true (show ((xo.length:Nat):Int)<=130 by omega),Bool.true_and,decide_eq_true (show ((xt.length:Nat):Int)<=130 by omega),Bool.true_and,decide_eq_true (show ((xu.length:Nat):Int)<=110 by omega),Bool.true_and,decide_eq_true (show ((xi.length:Nat):Int)<=60 by omega),Bool.true_and]at hsp
 simp +contextual +decide (maxSteps:=1000000) only [↓ wP,wQ,tf,Nat.reduceAdd,wS,reduceCtorEq,c1,c2,c3,c4,c5,ho0.len,ht0.len,hu0.len,hi0.len,k1,k2,k3,k4]
 refine bA (fun i e=>∃ t n low o,e=⟨75,none,16,t,[],⟨n,low,o⟩,.no⟩/\t.val 1=.ptr 0 0 0/\t.val 3=.int .i64 (i:Nat)/\o.get 0=some (bB 0 [os,ts,us,is,no])/\1<=n/\i<=xo.length/\W=(xo.drop i).all nF) (fun i=>xo.length-i) 0 ⟨_,_,_,_,rfl,by simp +decide only [↓ aC,aE,aD],by simp +decide only [↓ aC,aE,aD];rfl,by simp +decide only [↓ aC,aJ,aD,ne_eq],by omega,Nat.zero_le _,hsp⟩ ?_
 rintro i _ ⟨t,n,low,o,rfl,t1,t3,g0,hn,hi,hq⟩
 have f0:=eA (show 0<n by omega)
 rcases Nat.lt_or_ge i xo.length with hlt | hge
 ·obtain ⟨y,hDy,hm,hg,hd,hix,hw,hc⟩:=bO (fun x h=>tk_ob.len h) hox ho0.2 hlt
  have hpf:=fun {d:Option AV}=>tk_ob.pf hDy (d:=d)
  rw [hd,List.all_cons]at hq
  obtain ⟨_,_,va,fr,rfl,⟨ki,rfl⟩,⟨nn,rfl⟩,hva,hfr⟩:=hDy
  have cv:=(aT _ hva).2
  have cf:=(fL _ hfr).2
  have hva0:sM [va]=some (.bool (gS va)):=bW hva
  obtain ⟨xr,hr0,hrx⟩:=hfr
  rw [show nF (.agg [.int .i64 ki,.int .i64 nn,va,fr])=(gS va&&(decide ((xr.length:Int)<=50)&&xr.all sN)) by rw [<-hr0.els];rfl]at hq
  cases k5:gS va with
  | false=>
    rw [k5,Bool.false_and,Bool.false_and]at hq
    simp +contextual +decide (maxSteps:=1000000) only [↓ wP,wQ,tf,Nat.reduceAdd,wS,reduceCtorEq,t1,t3,g0,f0,c1,c2,c3,c4,c5,cv,cf,ho0.len,ho0.idx,hix,hc,hpf,hva0,k5,dO,hq]
  | true=>
  rw [k5,Bool.true_and]at hq
  by_cases k6:((xr.length:Nat):Int) > 50
  ·rw [decide_eq_false (show ¬ ((xr.length:Nat):Int)<=50 by omega),Bool.false_and,Bool.false_and]at hq
   simp +contextual +decide (maxSteps:=1000000) only [↓ wP,wQ,tf,Nat.reduceAdd,wS,reduceCtorEq,t1,t3,g0,f0,c1,c2,c3,c4,c5,cv,cf,ho0.len,ho0.idx,hix,hc,hpf,hva0,k5,hr0.len,k6,dO,hq]
  rw [decide_eq_true (show ((xr.length:Nat):Int)<=50 by omega),Bool.true_and]at hq
  simp +contextual +decide (maxSteps:=1000000) only [↓ wP,wQ,tf,Nat.reduceAdd,wS,reduceCtorEq,t1,t3,g0,f0,c1,c2,c3,c4,c5,cv,cf,ho0.len,ho0.idx,hix,hc,hpf,hva0,k5,hr0.len,k6,dO]
  refine bA (fun j e=>∃ t k low o m,e=⟨75,none,16,t,[],⟨k,low,o⟩,.no⟩/\t.val 1=.ptr 0 0 0/\t.val 3=.int .i64 (i:Nat)/\t.val 4=.ptr m 0 0/\t.val 5=.int .i64 (j:Nat)/\o.get 0=some (bB 0 [os,ts,us,is,no])/\o.get m=some (bB 0 [.int .i64 ki,.int .i64 nn,va,fr])/\0<k/\m<k/\j<=xr.length/\W=((xr.drop j).all sN&&(xo.drop (i+1)).all nF)) (fun j=>xr.length-j) 0
   ⟨_,_,_,_,n,rfl,by simp +decide only [↓ aC,aE,aD,t1],by simp +decide only [↓ aC,aE,aD,t3],by simp +decide only [↓ aC,aE,aD],by simp +decide only [↓ aC,aE,aD];rfl,by simp +decide only [↓ aC,aJ,aD,ne_eq,g0,f0,dO],by simp +decide only [↓ aC,aJ,aD,ne_eq,dO],by omega,by omega,Nat.zero_le _,hq⟩ ?_
  clear t1 t3 g0 f0 hq hn
  clear t
  rintro j _ ⟨t,k,low,o,m,rfl,t1,t3,t4,t5,g0,gm,hk1,hk2,hj,hq⟩
  have f0:=eA hk1
  have fm:=eA hk2
  rcases Nat.lt_or_ge j xr.length with hjt | hjg
  ·obtain ⟨y2,hDy2,hm2,hg2,hd2,hix2,hw2,hc2⟩:=bO (fun x h=>tk_fr.len h) hrx hr0.2 hjt
   rw [hd2,List.all_cons]at hq
   obtain ⟨_,va1,va2,rfl,⟨ni,rfl⟩,h1,h2⟩:=hDy2
   have e1:sM [va1]=some (.bool (gS va1)):=bW h1
   have e2:sM [va2]=some (.bool (gS va2)):=bW h2
   have cv1:=(aT _ h1).2
   have cv2:=(aT _ h2).2
   rw [show sN (.agg [.int .i64 ni,va1,va2])=(gS va1&&gS va2) from rfl]at hq
   cases k7:gS va1 with
   | false=>
     rw [k7,Bool.false_and,Bool.false_and]at hq
     simp +contextual +decide (maxSteps:=1000000) only [↓ wP,wQ,tf,Nat.reduceAdd,wS,reduceCtorEq,t1,t3,t4,t5,g0,gm,f0,fm,cv,cf,cv1,cv2,hr0.len,hr0.idx,hix2,hc2,e1,k7,hq]
   | true=>
   rw [k7,Bool.true_and]at hq
   cases k8:gS va2 with
   | false=>
     rw [k8,Bool.false_and]at hq
     simp +contextual +decide (maxSteps:=1000000) only [↓ wP,wQ,tf,Nat.reduceAdd,wS,reduceCtorEq,t1,t3,t4,t5,g0,gm,f0,fm,cv,cf,cv1,cv2,hr0.len,hr0.idx,hix2,hc2,e1,k7,e2,k8,hq]
   | true=>
   rw [k8,Bool.true_and]at hq
   simp +contextual +decide (maxSteps:=1000000) only [↓ wP,wQ,tf,Nat.reduceAdd,wS,reduceCtorEq,t1,t3,t4,t5,g0,gm,f0,fm,cv,cf,cv1,cv2,hr0.len,hr0.idx,hix2,hc2,e1,k7,e2,k8,hw2]
   exact ⟨j+1,by show _-_<_-_;omega,_,_,_,_,_,rfl,by simp +decide only [↓ aC,aE,aD,t1],by simp +decide only [↓ aC,aE,aD,t3],by simp +decide only [↓ aC,aE,aD,t4],by simp +decide only [↓ aC,aE,aD],by simp +decide only [↓ aC,aJ,aD,ne_eq,g0,f0],by simp +decide only [↓ aC,aJ,aD,ne_eq,gm,fm],hk1,hk2,hjt,hq⟩
  ·obtain rfl:j=xr.length:=Nat.le_antisymm hj hjg
   rw [List.drop_length,List.all_nil,Bool.true_and]at hq
   simp +contextual +decide (maxSteps:=1000000) only [↓ wP,wQ,tf,Nat.reduceAdd,wS,reduceCtorEq,t1,t3,t4,t5,g0,gm,f0,fm,cv,cf,hr0.len,bF,hw]
   exact ⟨i+1,by show _-_<_-_;omega,_,_,_,_,rfl,by simp +decide only [↓ aC,aE,aD,t1],by simp +decide only [↓ aC,aE,aD],by simp +decide only [↓ aC,aJ,aD,ne_eq,g0,f0],hk1,hlt,hq⟩
 ·obtain rfl:i=xo.length:=Nat.le_antisymm hi hge
  rw [List.drop_length,List.all_nil]at hq
  simp +contextual +decide (maxSteps:=1000000) only [↓ wP,wQ,tf,Nat.reduceAdd,wS,reduceCtorEq,t1,t3,g0,f0,c1,c2,c3,c4,c5,ho0.len,bF,hq]
end
abbrev wJ:List AV->Option AV:=rA AX fun a=>.bool (lD (a.fld 0).els (a.fld 1).els (a.fld 2).els (a.fld 3).els)
theorem smallWV_ok:Abs.Ok Tryz.prog 16 wJ:=vQ fun a ⟨os,ts,us,is,no,e,h1,h2,h3,h4,h5⟩=>by
 subst e;exact zT ⟨h1,h2,h3,h4,h5⟩
abbrev JL:=TSl VU
theorem sO:Tu JL:=gM (yF NS)
def stg (os ts us is no os' ts' us' is' no' d g:AV):AV:=.agg [os,ts,us,is,no,os',ts',us',is',no',d,g]
structure SG (os ts us is no os' ts' us' is' no' d g:AV):Prop where
 w:WG os ts us is no
 s:WG os' ts' us' is' no'
 d:JL d
 g:JL g
section
variable {os ts us is no os' ts' us' is' no' d g:AV}
theorem SG.cells (h:SG os ts us is no os' ts' us' is' no' d g):d.isCell=true/\g.isCell=true:=⟨(sO _ h.d).2,(sO _ h.g).2⟩
theorem SG.und (h:SG os ts us is no os' ts' us' is' no' d g):UnderE 0 (stg os ts us is no os' ts' us' is' no' d g):=by
 refine eT fun x hx=>?_
 simp only [List.mem_cons,List.not_mem_nil,or_false]at hx
 rcases hx with rfl | rfl | rfl | rfl | rfl | rfl | rfl | rfl | rfl | rfl | rfl | rfl
 ·exact (fM _ h.w.os).1
 ·exact (aP _ h.w.ts).1
 ·exact (cV _ h.w.us).1
 ·exact (aP _ h.w.is).1
 ·exact (tu_int _ h.w.no).1
 ·exact (fM _ h.s.os).1
 ·exact (aP _ h.s.ts).1
 ·exact (cV _ h.s.us).1
 ·exact (aP _ h.s.is).1
 ·exact (tu_int _ h.s.no).1
 ·exact (sO _ h.d).1
 ·exact (sO _ h.g).1
end
def aEw (v:AV):Int × Int:=((v.fld 0).num,(v.fld 1).num)
def cG (a b:List AV):Bool:=decide (a.map aEw=b.map aEw)
theorem xI {k n k' n':Int} {a b:List AV}:cG (.agg [.int .i64 k,.int .i64 n]::a) (.agg [.int .i64 k',.int .i64 n']::b)=(decide (k=k'/\n=n')&&cG a b):=by
 simp only [cG,List.map_cons,List.cons.injEq]
 rw [Bool.decide_and]
 congr 1
 exact decide_eq_decide.2 (by simp [aEw,AV.fld,AV.num])
theorem AQ {a b:List AV} (h:¬ a.length=b.length):cG a b=false:=by
 simp only [cG,decide_eq_false_iff_not]
 intro e
 have:=congrArg List.length e
 simp at this
 exact h this
theorem aKb {x y:Operand} {k n k' n':Int}:kV Tryz.prog .neq 169 x y (.agg [.int .i64 k,.int .i64 n]) (.agg [.int .i64 k',.int .i64 n'])=true:=by kernel_rfl
theorem aHm {k n k' n':Int}:BN Tryz.prog 10000 169 (.agg [.int .i64 k,.int .i64 n]) (.agg [.int .i64 k',.int .i64 n'])=some (decide (k=k'/\n=n')):=by
 have h2:BN Tryz.prog 10000 169 (.agg [.int .i64 k,.int .i64 n]) (.agg [.int .i64 k',.int .i64 n'])=aeqs Tryz.prog (BN Tryz.prog 9999) [.int .i64 k,.int .i64 n] [.int .i64 k',.int .i64 n'] [(167,0),(3,1)]:=by kernel_rfl
 have q3:∀ {k k':Int},BN Tryz.prog 9999 167 (.int .i64 k) (.int .i64 k')=some (jJ k k'):=by intro _ _;kernel_rfl
 have q4:∀ {k k':Int},BN Tryz.prog 9999 3 (.int .i64 k) (.int .i64 k')=some (jJ k k'):=by intro _ _;kernel_rfl
 have q5:∀ {k k':AV},iE Tryz.prog 167 [k,k'] 0=some k:=by intro _ _;kernel_rfl
 have q6:∀ {k k':AV},iE Tryz.prog 3 [k,k'] 1=some k':=by intro _ _;kernel_rfl
 rw [h2]
 simp only [aeqs,q3,q4,q5,q6,dT]
 have hb:∀ a b:Int,(a==b)=decide (a=b):=fun a b=>rfl
 rw [hb,hb,Bool.decide_and]
 cases decide (k=k')<;>cases decide (n=n')<;>rfl
theorem TY {x y:Operand} {k n k' n':Int}:bX Tryz.prog .neq 169 x y (.agg [.int .i64 k,.int .i64 n]) (.agg [.int .i64 k',.int .i64 n'])=some (.bool (!decide (k=k'/\n=n'))):=by
 simp only [bX,aKb,cond_true,aHm]
abbrev xJ:List AV->Option AV:=rV (fun a b=>kI a/\kI b) fun a b=>.bool (cG a.els b.els)
set_option maxHeartbeats 1000000 in
theorem rsameVals_ok:Abs.Ok Tryz.prog 101 xJ:=ok2 fun a b ⟨ha,hb⟩=>by
 have hua:=(aT a ha).1
 have hub:=(aT b hb).1
 obtain ⟨xs,hs,hxs⟩:=ha
 obtain ⟨ys,hy,hys⟩:=hb
 rw [hs.els,hy.els]
 refine aH (L:=[]) aG aO (by kernel_rfl) Tryz.func101 Tryz.ntmps101 Tryz.results101 rfl rfl (aA hua.und (aA hub.und aF)) aL ?_
 have hsp:cG xs ys=cG xs ys:=rfl
 by_cases k0:((xs.length:Nat):Int)=((ys.length:Nat):Int)
 rotate_left
 ·rw [AQ (by omega)]
  simp +contextual +decide (maxSteps:=1000000) only [↓ wP,wQ,tf,Nat.reduceAdd,wS,reduceCtorEq,hs.len,hy.len,k0]
 have k1:xs.length=ys.length:=by omega
 have hsp:∃ W,W=cG xs ys:=⟨_,rfl⟩
 obtain ⟨W,hsp⟩:=hsp
 rw [<-hsp]
 simp +contextual +decide (maxSteps:=1000000) only [↓ wP,wQ,tf,Nat.reduceAdd,wS,reduceCtorEq,hs.len,hy.len,k0]
 refine bA (fun i e=>∃ t n low o,e=⟨26,none,101,t,[],⟨n,low,o⟩,.no⟩/\t.val 0=a/\t.val 1=b/\t.val 5=.int .i64 (i:Nat)/\0<=n/\i<=xs.length/\W=cG (xs.drop i) (ys.drop i)) (fun i=>xs.length-i) 0 ⟨_,_,_,_,rfl,by simp +decide only [↓ aC,aE,aD],by simp +decide only [↓ aC,aE,aD],by simp +decide only [↓ aC,aE,aD];rfl,by omega,Nat.zero_le _,hsp⟩ ?_
 rintro i _ ⟨t,n,low,o,rfl,t0,t1,t5,hn,hi,hq⟩
 rcases Nat.lt_or_ge i xs.length with hlt | hge
 ·obtain ⟨y,hDy,hm,hg,hd,hix,hw,hc⟩:=bO (fun x h=>tk_val.len h) hxs hs.2 hlt
  obtain ⟨y',hDy',hm',hg',hd',hix',hw',hc'⟩:=bO (fun x h=>tk_val.len h) hys hy.2 (by omega:i<ys.length)
  have hpf:=fun {d:Option AV}=>tk_val.pf hDy (d:=d)
  have hpf':=fun {d:Option AV}=>tk_val.pf hDy' (d:=d)
  obtain ⟨_,_,rfl,⟨k,rfl⟩,⟨n',rfl⟩⟩:=hDy
  obtain ⟨_,_,rfl,⟨k',rfl⟩,⟨m',rfl⟩⟩:=hDy'
  rw [hd,hd',xI]at hq
  by_cases k2:k=k'/\n'=m'
  ·rw [decide_eq_true k2,Bool.true_and]at hq
   obtain ⟨rfl,rfl⟩:=k2
   simp +contextual +decide (maxSteps:=1000000) only [↓ wP,wQ,tf,Nat.reduceAdd,wS,reduceCtorEq,t0,t1,t5,hs.len,hs.idx,hy.idx,hix,hix',hc,hc',hpf,hpf',TY,hw]
   exact ⟨i+1,by show _-_<_-_;omega,_,_,_,_,rfl,by simp +decide only [↓ aC,aE,aD,t0],by simp +decide only [↓ aC,aE,aD,t1],by simp +decide only [↓ aC,aE,aD],by omega,hlt,hq⟩
  ·rw [decide_eq_false k2,Bool.false_and]at hq
   simp +contextual +decide (maxSteps:=1000000) only [↓ wP,wQ,tf,Nat.reduceAdd,wS,reduceCtorEq,t0,t1,t5,hs.len,hs.idx,hy.idx,hix,hix',hc,hc',hpf,hpf',TY,k2,hq]
 ·obtain rfl:i=xs.length:=Nat.le_antisymm hi hge
  rw [List.drop_length,k1,List.drop_length]at hq
  rw [show cG [] []=true from rfl]at hq
  simp +contextual +decide (maxSteps:=1000000) only [↓ wP,wQ,tf,Nat.reduceAdd,wS,reduceCtorEq,t0,t1,t5,hs.len,bF,hq]
def AR (f g:AV):Bool:=decide ((f.fld 0).num=(g.fld 0).num)&&(cG (f.fld 1).els (g.fld 1).els&&cG (f.fld 2).els (g.fld 2).els)
def jC:List AV->List AV->Bool
 | [],[]=>true
 | f::l,g::m=>AR f g&&jC l m
 | _,_=>false
theorem xK:∀ {a b:List AV},¬ a.length=b.length->jC a b=false
 | [],[],h=>absurd rfl h
 | _::_,[],_=>rfl
 | [],_::_,_=>rfl
 | x::l,y::m,h=>by
   rw [jC,xK (a:=l) (b:=m) (fun e=>h (by simp [e])),Bool.and_false]
def qY (a b:AV):Bool:=decide ((a.fld 0).num=(b.fld 0).num)&&(decide ((a.fld 1).num=(b.fld 1).num)&&(cG (a.fld 2).els (b.fld 2).els&&jC (a.fld 3).els (b.fld 3).els))
abbrev JM:List AV->Option AV:=rV (fun a b=>vM a/\vM b) fun a b=>.bool (qY a b)
set_option maxHeartbeats 4000000 in
theorem rsameObj_ok:Abs.Ok Tryz.prog 57 JM:=ok2 fun a b ⟨ha,hb⟩=>by
 have hua:=(tk_ob a ha).1
 have hub:=(tk_ob b hb).1
 obtain ⟨_,_,va,fr,rfl,⟨k,rfl⟩,⟨nu,rfl⟩,hva,hfr⟩:=ha
 obtain ⟨_,_,va',fr',rfl,⟨k',rfl⟩,⟨nu',rfl⟩,hva',hfr'⟩:=hb
 have cv:=(aT _ hva).2
 have cf:=(fL _ hfr).2
 have cv':=(aT _ hva').2
 have cf':=(fL _ hfr').2
 have hv:xJ [va,va']=some (.bool (cG va.els va'.els)):=sg2_eq ⟨hva,hva'⟩
 obtain ⟨xr,hr,hxr⟩:=hfr
 obtain ⟨yr,hr',hyr⟩:=hfr'
 refine aH (L:=[ent 101 xJ]) (elist_cons rsameVals_ok.ent aG) (fun r=>([],[1000])) (by kernel_rfl) Tryz.func57 Tryz.ntmps57 Tryz.results57 rfl rfl (aA hua.und (aA hub.und aF)) aL ?_
 have hsp:qY (.agg [.int .i64 k,.int .i64 nu,va,fr]) (.agg [.int .i64 k',.int .i64 nu',va',fr'])=(decide (k=k')&&(decide (nu=nu')&&(cG va.els va'.els&&jC xr yr))):=by
  rw [<-hr.els,<-hr'.els];rfl
 generalize qY (.agg [.int .i64 k,.int .i64 nu,va,fr]) (.agg [.int .i64 k',.int .i64 nu',va',fr'])=W at *
 by_cases k1:k=k'
 rotate_left
 ·rw [decide_eq_false k1,Bool.false_and]at hsp
  simp +contextual +decide (maxSteps:=1000000) only [↓ wP,wQ,tf,Nat.reduceAdd,wS,reduceCtorEq,cv,cf,cv',cf',k1,hsp]
 rw [decide_eq_true k1,Bool.true_and]at hsp
 subst k1
 by_cases k2:nu=nu'
 rotate_left
 ·rw [decide_eq_false k2,Bool.false_and]at hsp
  simp +contextual +decide (maxSteps:=1000000) only [↓ wP,wQ,tf,Nat.reduceAdd,wS,reduceCtorEq,cv,cf,cv',cf',k2,hsp]
 rw [decide_eq_true k2,Bool.true_and]at hsp
 subst k2
 cases k3:cG va.els va'.els with
 | false=>
   rw [k3,Bool.false_and]at hsp
   simp +contextual +decide (maxSteps:=1000000) only [↓ wP,wQ,tf,Nat.reduceAdd,wS,reduceCtorEq,cv,cf,cv',cf',hv,k3,hsp]
 | true=>
 rw [k3,Bool.true_and]at hsp
 by_cases k4:((xr.length:Nat):Int)=((yr.length:Nat):Int)
 rotate_left
 ·rw [xK (by omega)]at hsp
  simp +contextual +decide (maxSteps:=1000000) only [↓ wP,wQ,tf,Nat.reduceAdd,wS,reduceCtorEq,cv,cf,cv',cf',hv,k3,hr.len,hr'.len,k4,hsp]
 have k5:xr.length=yr.length:=by omega
 simp +contextual +decide (maxSteps:=1000000) only [↓ wP,wQ,tf,Nat.reduceAdd,wS,reduceCtorEq,cv,cf,cv',cf',hv,k3,hr.len,hr'.len,k4]
 refine bA (fun i e=>∃ t n low o,e=⟨75,none,57,t,[],⟨n,low,o⟩,.no⟩/\t.val 2=.ptr 0 0 0/\t.val 3=.ptr 1 0 0/\t.val 5=.int .i64 (i:Nat)/\o.get 0=some (bB 0 [.int .i64 k,.int .i64 nu,va,fr])/\o.get 1=some (bB 0 [.int .i64 k,.int .i64 nu,va',fr'])/\2<=n/\i<=xr.length/\W=jC (xr.drop i) (yr.drop i)) (fun i=>xr.length-i) 0 ⟨_,_,_,_,rfl,by simp +decide only [↓ aC,aE,aD],by simp +decide only [↓ aC,aE,aD],by simp +decide only [↓ aC,aE,aD];rfl,by simp +decide only [↓ aC,aJ,aD,ne_eq],by simp +decide only [↓ aC,aJ,aD,ne_eq],by omega,Nat.zero_le _,hsp⟩ ?_
 rintro i _ ⟨t,n,low,o,rfl,t2,t3,t5,g0,g1,hn,hi,hq⟩
 have f0:=eA (show 0<n by omega)
 have f1:=eA (show 1<n by omega)
 rcases Nat.lt_or_ge i xr.length with hlt | hge
 ·obtain ⟨y,hDy,hm,hg,hd,hix,hw,hc⟩:=bO (fun x h=>tk_fr.len h) hxr hr.2 hlt
  obtain ⟨y',hDy',hm',hg',hd',hix',hw',hc'⟩:=bO (fun x h=>tk_fr.len h) hyr hr'.2 (by omega:i<yr.length)
  have hpf:=fun {d:Option AV}=>tk_fr.pf hDy (d:=d)
  have hpf':=fun {d:Option AV}=>tk_fr.pf hDy' (d:=d)
  obtain ⟨_,p1,p2,rfl,⟨m,rfl⟩,e1,e2⟩:=hDy
  obtain ⟨_,p1',p2',rfl,⟨m',rfl⟩,e1',e2'⟩:=hDy'
  have s1:=fun {Y:Nat->Prop}=>e1.choose_spec.1.stab (Y:=Y)
  have s2:=fun {Y:Nat->Prop}=>e2.choose_spec.1.stab (Y:=Y)
  have s1':=fun {Y:Nat->Prop}=>e1'.choose_spec.1.stab (Y:=Y)
  have s2':=fun {Y:Nat->Prop}=>e2'.choose_spec.1.stab (Y:=Y)
  have u1:=fun {m:Nat}=>(aT _ e1).1.mono (Nat.zero_le m)
  have d1:=(aT _ e1).2
  have u2:=fun {m:Nat}=>(aT _ e2).1.mono (Nat.zero_le m)
  have d2:=(aT _ e2).2
  have u1':=fun {m:Nat}=>(aT _ e1').1.mono (Nat.zero_le m)
  have d1':=(aT _ e1').2
  have u2':=fun {m:Nat}=>(aT _ e2').1.mono (Nat.zero_le m)
  have d2':=(aT _ e2').2
  have v1:xJ [p1,p1']=some (.bool (cG p1.els p1'.els)):=sg2_eq ⟨e1,e1'⟩
  have v2:xJ [p2,p2']=some (.bool (cG p2.els p2'.els)):=sg2_eq ⟨e2,e2'⟩
  rw [hd,hd',jC,show AR (.agg [.int .i64 m,p1,p2]) (.agg [.int .i64 m',p1',p2'])=(decide (m=m')&&(cG p1.els p1'.els&&cG p2.els p2'.els)) from rfl]at hq
  by_cases j1:m=m'
  rotate_left
  ·rw [decide_eq_false j1,Bool.false_and,Bool.false_and]at hq
   simp +contextual +decide (maxSteps:=1000000) only [↓ wP,wQ,tf,Nat.reduceAdd,wS,reduceCtorEq,t2,t3,t5,g0,g1,f0,f1,cv,cf,cv',cf',hr.len,hr.idx,hr'.idx,hix,hix',hc,hc',hpf,hpf',d1,d2,d1',d2',hr.stab,hr'.stab,s1,s2,s1',s2',u1,u2,u1',u2',dO,j1,hq]
  rw [decide_eq_true j1,Bool.true_and]at hq
  subst j1
  cases j2:cG p1.els p1'.els with
  | false=>
    rw [j2,Bool.false_and,Bool.false_and]at hq
    simp +contextual +decide (maxSteps:=1000000) only [↓ wP,wQ,tf,Nat.reduceAdd,wS,reduceCtorEq,t2,t3,t5,g0,g1,f0,f1,cv,cf,cv',cf',hr.len,hr.idx,hr'.idx,hix,hix',hc,hc',hpf,hpf',d1,d2,d1',d2',hr.stab,hr'.stab,s1,s2,s1',s2',u1,u2,u1',u2',dO,v1,j2,hq]
  | true=>
  rw [j2,Bool.true_and]at hq
  cases j3:cG p2.els p2'.els with
  | false=>
    rw [j3,Bool.false_and]at hq
    simp +contextual +decide (maxSteps:=1000000) only [↓ wP,wQ,tf,Nat.reduceAdd,wS,reduceCtorEq,t2,t3,t5,g0,g1,f0,f1,cv,cf,cv',cf',hr.len,hr.idx,hr'.idx,hix,hix',hc,hc',hpf,hpf',d1,d2,d1',d2',hr.stab,hr'.stab,s1,s2,s1',s2',u1,u2,u1',u2',dO,v1,j2,v2,j3,hq]
  | true=>
  rw [j3,Bool.true_and]at hq
  simp +contextual +decide (maxSteps:=1000000) only [↓ wP,wQ,tf,Nat.reduceAdd,wS,reduceCtorEq,t2,t3,t5,g0,g1,f0,f1,cv,cf,cv',cf',hr.len,hr.idx,hr'.idx,hix,hix',hc,hc',hpf,hpf',d1,d2,d1',d2',hr.stab,hr'.stab,s1,s2,s1',s2',u1,u2,u1',u2',dO,v1,j2,v2,j3,hw]
  exact ⟨i+1,by show _-_<_-_;omega,_,_,_,_,rfl,by simp +decide only [↓ aC,aE,aD,t2],by simp +decide only [↓ aC,aE,aD,t3],by simp +decide only [↓ aC,aE,aD],by simp +decide only [↓ aC,aJ,aD,ne_eq,g0,g1,f0,f1,dO],by simp +decide only [↓ aC,aJ,aD,ne_eq,g0,g1,f0,f1,dO],by omega,hlt,hq⟩
 ·obtain rfl:i=xr.length:=Nat.le_antisymm hi hge
  rw [List.drop_length,k5,List.drop_length,jC]at hq
  simp +contextual +decide (maxSteps:=1000000) only [↓ wP,wQ,tf,Nat.reduceAdd,wS,reduceCtorEq,t2,t3,t5,g0,g1,f0,f1,cv,cf,cv',cf',hr.len,bF,hq]
end
end Go.Proofs.YtginbapbkjhnjaaGreat
