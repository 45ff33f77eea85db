/-
  The references of worlds and points: what is small.
-/
import Derived.Test.YtifmdaalhclhgaaGreatOf
set_option linter.unusedVariables false
set_option linter.unusedSimpArgs false
namespace Go.Proofs.YtifmdaalhclhgaaGreat
open Go.Abs Go Go.Abs.TryzF
noncomputable section
set_option maxRecDepth 10000
abbrev wY:List AV->Option AV:=rE dN fun a=>.bool (decide ((a.els.length:Int)<=40))
theorem smallVals_ok:Abs.Ok Tryz.prog 49 wY:=wD fun a ha=>by
 have hua:=(aH a ha).1;obtain ⟨xs,hs,hxs⟩:=ha;rw [hs.els];refine aF (L:=[]) aD aN (by kernel_rfl) Tryz.func49 Tryz.ntmps49 Tryz.results49 rfl rfl (aA hua.und aC) aJ ?_;exact tN hs.lX
def jA (a:AV):Bool:=decide ((a.els.length:Int)<=40)
def wZ (f:AV):Bool:=jA (f.fld 1)&&jA (f.fld 2)
def pU (o:AV):Bool:=jA (o.fld 2)&&(decide (((o.fld 3).els.length:Int)<=50)&&(o.fld 3).els.all wZ)
def jB (os ts us is:List AV):Bool:=decide ((os.length:Int)<=130)&&(decide ((ts.length:Int)<=130)&&(decide ((us.length:Int)<=110)&&(decide ((is.length:Int)<=60)&&os.all pU)))
def wg (os ts us is no:AV):AV:=.agg [os,ts,us,is,no]
structure WG (os ts us is no:AV):Prop where
 os:TSl fX os
 ts:dE ts
 us:TSl jY us
 is:dE is
 no:cA no
section
variable {os ts us is no:AV}
theorem WG.wd (h:WG os ts us is no):tO (wg os ts us is no):=⟨_,_,_,_,_,rfl,h.os,h.ts,h.us,h.is,h.no⟩
theorem WG.cells (h:WG os ts us is no):os.isCell=true/\ts.isCell=true/\us.isCell=true/\is.isCell=true/\no.isCell=true:=⟨(cD _ h.os).2,(aL _ h.ts).2,(bJ _ h.us).2,(aL _ h.is).2,(tu_int _ h.no).2⟩
theorem WG.und (h:WG os ts us is no):UnderE 0 (wg os ts us is no):=(tk_wd _ h.wd).1
set_option maxHeartbeats 16000000 in
theorem FI (h:WG os ts us is no):Abs.Returns Tryz.prog 21 [wg os ts us is no] (.bool (jB os.els ts.els us.els is.els)):=by
 obtain ⟨c1,c2,c3,c4,c5⟩:=h.cells;refine aF (L:=[ent 49 wY]) (elist_cons smallVals_ok.ent aD) aN (by kernel_rfl) Tryz.func21 Tryz.ntmps21 Tryz.results21 rfl rfl (aA h.und.und aC) aJ ?_;obtain ⟨xo,ho0,hox⟩:=h.os;obtain ⟨xt,ht0,htx⟩:=h.ts;obtain ⟨xu,hu0,hux⟩:=h.us;obtain ⟨xi,hi0,hix0⟩:=h.is;rw [ho0.els,ht0.els,hu0.els,hi0.els];have hsp:jB xo xt xu xi=(decide ((xo.length:Int)<=130)&&(decide ((xt.length:Int)<=130)&&(decide ((xu.length:Int)<=110)&&(decide ((xi.length:Int)<=60)&&xo.all pU)))):=rfl;generalize jB xo xt xu xi=W at *;unfold wg;by_cases k1:((xo.length:Nat):Int) > 130
 ·rw [decide_eq_false (show ¬ ((xo.length:Nat):Int)<=130 by omega),Bool.false_and]at hsp
  exact az8 @c1 @c2 @c3 @c4 @c5 ho0.lX @k1 @hsp
 by_cases k2:((xt.length:Nat):Int) > 130
 ·rw [decide_eq_false (show ¬ ((xt.length:Nat):Int)<=130 by omega),Bool.false_and,Bool.and_false]at hsp
  exact JH @c1 @c2 @c3 @c4 @c5 ho0.lX ht0.lX @k1 @k2 @hsp
 by_cases k3:((xu.length:Nat):Int) > 110
 ·rw [decide_eq_false (show ¬ ((xu.length:Nat):Int)<=110 by omega),Bool.false_and,Bool.and_false,Bool.and_false]at hsp
  exact vO @c1 @c2 @c3 @c4 @c5 ho0.lX ht0.lX hu0.lX @k1 @k2 @k3 @hsp
 by_cases k4:((xi.length:Nat):Int) > 60
 ·rw [decide_eq_false (show ¬ ((xi.length:Nat):Int)<=60 by omega),Bool.false_and,Bool.and_false,Bool.and_false,Bool.and_false]at hsp
  exact xK @c1 @c2 @c3 @c4 @c5 ho0.lX ht0.lX hu0.lX hi0.lX @k1 @k2 @k3 @k4 @hsp
 rw [decide_eq_true (show ((xo.length:Nat):Int)<=130 by omega),Bool.true_and,decide_eq_true (show ((xt.length:Nat):Int)<=130 by omega),Bool.true_and,decide_eq_true (show ((xu.length:Nat):Int)<=110 by omega),Bool.true_and,decide_eq_true (show ((xi.length:Nat):Int)<=60 by omega),Bool.true_and]at hsp;refine FK @c1 @c2 @c3 @c4 @c5 ho0.lX ht0.lX hu0.lX hi0.lX @k1 @k2 @k3 @k4 ?_;refine aQ (fun i e=>∃ t n low o,e=⟨75,none,21,t,[],⟨n,low,o⟩,.no⟩/\t.val 1=.ptr 0 0 0/\t.val 3=.int .i64 (i:Nat)/\o.get 0=some (aY 0 [os,ts,us,is,no])/\1<=n/\i<=xo.length/\W=(xo.drop i).all pU) (fun i=>xo.length-i) 0 ⟨_,_,_,_,rfl,aG,eP,aG,aE,Nat.zero_le _,hsp⟩ ?_;rintro i _ ⟨t,n,low,o,rfl,t1,t3,g0,hn,hi,hq⟩;have f0:=bT (show 0<n by omega)
 rcases Nat.lt_or_ge i xo.length with hlt | hge
 ·obtain ⟨y,hDy,hm,hg,hd,hix,hw,hc⟩:=aZ (fun x h=>tk_ob.len h) hox ho0.2 hlt
  have hpf:=fun {d:Option AV}=>tk_ob.pf hDy (d:=d)
  rw [hd,List.all_cons]at hq;obtain ⟨_,_,va,fr,rfl,⟨ki,rfl⟩,⟨nn,rfl⟩,hva,hfr⟩:=hDy;have cv:=(aH _ hva).2;have cf:=(bN _ hfr).2;have hva0:wY [va]=some (.bool (jA va)):=bX hva;obtain ⟨xr,hr0,hrx⟩:=hfr;rw [show pU (.agg [.int .i64 ki,.int .i64 nn,va,fr])=(jA va&&(decide ((xr.length:Int)<=50)&&xr.all wZ)) by rw [<-hr0.els];rfl]at hq
  cases k5:jA va with
  | false=>
    rw [k5,Bool.false_and,Bool.false_and]at hq;exact NG @t1 @t3 @g0 @f0 @cv @cf ho0.lX ho0.iX @hix @hc @hpf @hva0 @k5 @cT @hq
  | true=>
  rw [k5,Bool.true_and]at hq;by_cases k6:((xr.length:Nat):Int) > 50
  ·rw [decide_eq_false (show ¬ ((xr.length:Nat):Int)<=50 by omega),Bool.false_and,Bool.false_and]at hq
   exact aEs @t1 @t3 @g0 @f0 @cv @cf ho0.lX ho0.iX @hix @hc @hpf @hva0 @k5 hr0.lX @k6 @cT @hq
  rw [decide_eq_true (show ((xr.length:Nat):Int)<=50 by omega),Bool.true_and]at hq;refine ND @t1 @t3 @g0 @f0 @cv @cf ho0.lX ho0.iX @hix @hc @hpf @hva0 @k5 hr0.lX @k6 @cT ?_
  refine aQ (fun j e=>∃ t k low o m,e=⟨75,none,21,t,[],⟨k,low,o⟩,.no⟩/\t.val 1=.ptr 0 0 0/\t.val 3=.int .i64 (i:Nat)/\t.val 4=.ptr m 0 0/\t.val 5=.int .i64 (j:Nat)/\o.get 0=some (aY 0 [os,ts,us,is,no])/\o.get m=some (aY 0 [.int .i64 ki,.int .i64 nn,va,fr])/\0<k/\m<k/\j<=xr.length/\W=((xr.drop j).all wZ&&(xo.drop (i+1)).all pU)) (fun j=>xr.length-j) 0
   ⟨_,_,_,_,n,rfl,aP @t1,aP @t3,aG,eP,iY @g0 @f0,aG,aE,aE,Nat.zero_le _,hq⟩ ?_
  clear t1 t3 g0 f0 hq hn;clear t;rintro j _ ⟨t,k,low,o,m,rfl,t1,t3,t4,t5,g0,gm,hk1,hk2,hj,hq⟩;have f0:=bT hk1;have fm:=bT hk2
  rcases Nat.lt_or_ge j xr.length with hjt | hjg
  ·obtain ⟨y2,hDy2,hm2,hg2,hd2,hix2,hw2,hc2⟩:=aZ (fun x h=>tk_fr.len h) hrx hr0.2 hjt
   rw [hd2,List.all_cons]at hq;obtain ⟨_,va1,va2,rfl,⟨ni,rfl⟩,h1,h2⟩:=hDy2;have e1:wY [va1]=some (.bool (jA va1)):=bX h1;have e2:wY [va2]=some (.bool (jA va2)):=bX h2;have cv1:=(aH _ h1).2;have cv2:=(aH _ h2).2;rw [show wZ (.agg [.int .i64 ni,va1,va2])=(jA va1&&jA va2) from rfl]at hq
   cases k7:jA va1 with
   | false=>
     rw [k7,Bool.false_and,Bool.false_and]at hq;exact vO @t4 @t5 @gm @fm @cv1 hr0.lX hr0.iX @hix2 @hc2 @e1 @k7 @hq
   | true=>
   rw [k7,Bool.true_and]at hq
   cases k8:jA va2 with
   | false=>
     rw [k8,Bool.false_and]at hq;exact NG @t4 @t5 @gm @fm @cv1 @cv2 hr0.lX hr0.iX @hix2 @hc2 @e1 @k7 @e2 @k8 @hq
   | true=>
   rw [k8,Bool.true_and]at hq;refine JG @t4 @t5 @gm @fm @cv1 @cv2 hr0.lX hr0.iX @hix2 @hc2 @e1 @k7 @e2 @k8 @hw2 ?_;exact ⟨j+1,by show _-_<_-_;omega,_,_,_,_,_,rfl,aP @t1,aP @t3,aP @t4,aG,by simp +decide only [g0],by simp +decide only [gm],hk1,hk2,hjt,hq⟩
  ·obtain rfl:j=xr.length:=Nat.le_antisymm hj hjg
   rw [List.drop_length,List.all_nil,Bool.true_and]at hq;refine ap8 @t3 @t4 @t5 @gm @fm hr0.lX @aW @hw ?_;exact ⟨i+1,by show _-_<_-_;omega,_,_,_,_,rfl,aP @t1,aG,by simp +decide only [g0],hk1,hlt,hq⟩
 ·obtain rfl:i=xo.length:=Nat.le_antisymm hi hge
  rw [List.drop_length,List.all_nil]at hq;exact PX @t1 @t3 @g0 @f0 ho0.lX @aW @hq
end
abbrev IH:List AV->Option AV:=rE tO fun a=>.bool (jB (a.fld 0).els (a.fld 1).els (a.fld 2).els (a.fld 3).els)
theorem smallWV_ok:Abs.Ok Tryz.prog 21 IH:=wD fun a ⟨os,ts,us,is,no,e,h1,h2,h3,h4,h5⟩=>by
 subst e;exact FI ⟨h1,h2,h3,h4,h5⟩
abbrev RG:=TSl aFk
theorem xA:Tu RG:=fZ (zJ VX)
def stg (os ts us is no os' ts' us' is' no' d g:AV):AV:=.agg [os,ts,us,is,no,os',ts',us',is',no',d,g]
structure SG (os ts us is no os' ts' us' is' no' d g:AV):Prop where
 w:WG os ts us is no
 s:WG os' ts' us' is' no'
 d:RG d
 g:RG g
section
variable {os ts us is no os' ts' us' is' no' d g:AV}
theorem SG.cells (h:SG os ts us is no os' ts' us' is' no' d g):d.isCell=true/\g.isCell=true:=⟨(xA _ h.d).2,(xA _ h.g).2⟩
theorem SG.und (h:SG os ts us is no os' ts' us' is' no' d g):UnderE 0 (stg os ts us is no os' ts' us' is' no' d g):=by
 refine gC fun x hx=>?_
 simp only [List.mem_cons,List.not_mem_nil,or_false]at hx
 rcases hx with rfl | rfl | rfl | rfl | rfl | rfl | rfl | rfl | rfl | rfl | rfl | rfl
 ·exact (cD _ h.w.os).1
 ·exact (aL _ h.w.ts).1
 ·exact (bJ _ h.w.us).1
 ·exact (aL _ h.w.is).1
 ·exact (tu_int _ h.w.no).1
 ·exact (cD _ h.s.os).1
 ·exact (aL _ h.s.ts).1
 ·exact (bJ _ h.s.us).1
 ·exact (aL _ h.s.is).1
 ·exact (tu_int _ h.s.no).1
 ·exact (xA _ h.d).1
 ·exact (xA _ h.g).1
end
def aPe (v:AV):Int × Int:=((v.fld 0).num,(v.fld 1).num)
def bL (a b:List AV):Bool:=decide (a.map aPe=b.map aPe)
theorem pV {k n k' n':Int} {a b:List AV}:bL (.agg [.int .i64 k,.int .i64 n]::a) (.agg [.int .i64 k',.int .i64 n']::b)=(decide (k=k'/\n=n')&&bL a b):=by
 simp only [bL,List.map_cons,List.cons.injEq];rw [Bool.decide_and]
 congr 1
 exact decide_eq_decide.2 (by simp [aPe,AV.fld,AV.num])
theorem tJ {a b:List AV} (h:¬ a.length=b.length):bL a b=false:=by
 simp only [bL,decide_eq_false_iff_not];intro e;have:=congrArg List.length e;simp at this;exact h this
theorem aUw {x y:Operand} {k n k' n':Int}:nH Tryz.prog .neq 67 x y (.agg [.int .i64 k,.int .i64 n]) (.agg [.int .i64 k',.int .i64 n'])=true:=by kernel_rfl
theorem aSi {k n k' n':Int}:HP Tryz.prog 10000 67 (.agg [.int .i64 k,.int .i64 n]) (.agg [.int .i64 k',.int .i64 n'])=some (decide (k=k'/\n=n')):=by
 have h2:HP Tryz.prog 10000 67 (.agg [.int .i64 k,.int .i64 n]) (.agg [.int .i64 k',.int .i64 n'])=aeqs Tryz.prog (HP Tryz.prog 9999) [.int .i64 k,.int .i64 n] [.int .i64 k',.int .i64 n'] [(65,0),(3,1)]:=by kernel_rfl
 have q3:∀ {k k':Int},HP Tryz.prog 9999 65 (.int .i64 k) (.int .i64 k')=some (lD k k'):=by intro _ _;kernel_rfl
 have q4:∀ {k k':Int},HP Tryz.prog 9999 3 (.int .i64 k) (.int .i64 k')=some (lD k k'):=by intro _ _;kernel_rfl
 have q5:∀ {k k':AV},jQ Tryz.prog 65 [k,k'] 0=some k:=by intro _ _;kernel_rfl
 have q6:∀ {k k':AV},jQ Tryz.prog 3 [k,k'] 1=some k':=by intro _ _;kernel_rfl
 rw [h2];simp only [aeqs,q3,q4,q5,q6,eT]
 have hb:∀ a b:Int,(a==b)=decide (a=b):=fun a b=>rfl
 rw [hb,hb,Bool.decide_and];cases decide (k=k')<;>cases decide (n=n')<;>rfl
theorem II {x y:Operand} {k n k' n':Int}:cZ Tryz.prog .neq 67 x y (.agg [.int .i64 k,.int .i64 n]) (.agg [.int .i64 k',.int .i64 n'])=some (.bool (!decide (k=k'/\n=n'))):=by
 simp only [cZ,aUw,cond_true,aSi]
abbrev mM:List AV->Option AV:=nP (fun a b=>dN a/\dN b) fun a b=>.bool (bL a.els b.els)
set_option maxHeartbeats 1000000 in
theorem rsameVals_ok:Abs.Ok Tryz.prog 63 mM:=ok2 fun a b ⟨ha,hb⟩=>by
 have hua:=(aH a ha).1;have hub:=(aH b hb).1;obtain ⟨xs,hs,hxs⟩:=ha;obtain ⟨ys,hy,hys⟩:=hb;rw [hs.els,hy.els];refine aF (L:=[]) aD aN (by kernel_rfl) Tryz.func63 Tryz.ntmps63 Tryz.results63 rfl rfl (aA hua.und (aA hub.und aC)) aJ ?_;have hsp:bL xs ys=bL xs ys:=rfl
 by_cases k0:((xs.length:Nat):Int)=((ys.length:Nat):Int)
 rotate_left
 ·rw [tJ aE]
  exact SJ hs.lX hy.lX @k0
 have k1:xs.length=ys.length:=by omega
 have hsp:∃ W,W=bL xs ys:=⟨_,rfl⟩
 obtain ⟨W,hsp⟩:=hsp;rw [<-hsp];refine yQ hs.lX hy.lX @k0 ?_;refine aQ (fun i e=>∃ t n low o,e=⟨26,none,63,t,[],⟨n,low,o⟩,.no⟩/\t.val 0=a/\t.val 1=b/\t.val 5=.int .i64 (i:Nat)/\0<=n/\i<=xs.length/\W=bL (xs.drop i) (ys.drop i)) (fun i=>xs.length-i) 0 ⟨_,_,_,_,rfl,aG,aG,eP,aE,Nat.zero_le _,hsp⟩ ?_;rintro i _ ⟨t,n,low,o,rfl,t0,t1,t5,hn,hi,hq⟩
 rcases Nat.lt_or_ge i xs.length with hlt | hge
 ·obtain ⟨y,hDy,hm,hg,hd,hix,hw,hc⟩:=aZ (fun x h=>tk_val.len h) hxs hs.2 hlt
  obtain ⟨y',hDy',hm',hg',hd',hix',hw',hc'⟩:=aZ (fun x h=>tk_val.len h) hys hy.2 (by omega:i<ys.length)
  have hpf:=fun {d:Option AV}=>tk_val.pf hDy (d:=d)
  have hpf':=fun {d:Option AV}=>tk_val.pf hDy' (d:=d)
  obtain ⟨_,_,rfl,⟨k,rfl⟩,⟨n',rfl⟩⟩:=hDy;obtain ⟨_,_,rfl,⟨k',rfl⟩,⟨m',rfl⟩⟩:=hDy';rw [hd,hd',pV]at hq;by_cases k2:k=k'/\n'=m'
  ·rw [decide_eq_true k2,Bool.true_and]at hq
   obtain ⟨rfl,rfl⟩:=k2;refine sG @t0 @t1 @t5 hs.lX hs.iX hy.iX @hix @hix' @hc @hpf @II @hw ?_;exact ⟨i+1,by show _-_<_-_;omega,_,_,_,_,rfl,aP @t0,aP @t1,aG,aE,hlt,hq⟩
  ·rw [decide_eq_false k2,Bool.false_and]at hq
   exact xK @t0 @t1 @t5 hs.lX hs.iX hy.iX @hix @hix' @hc @hpf @hpf' @II @k2 @hq
 ·obtain rfl:i=xs.length:=Nat.le_antisymm hi hge
  rw [List.drop_length,k1,List.drop_length]at hq;rw [show bL [] []=true from rfl]at hq;exact DO @t0 @t5 hs.lX @aW @hq
def qU (f g:AV):Bool:=decide ((f.fld 0).num=(g.fld 0).num)&&(bL (f.fld 1).els (g.fld 1).els&&bL (f.fld 2).els (g.fld 2).els)
def eD:List AV->List AV->Bool
 | [],[]=>true
 | f::l,g::m=>qU f g&&eD l m
 | _,_=>false
theorem vI:∀ {a b:List AV},¬ a.length=b.length->eD a b=false
 | [],[],h=>absurd rfl h
 | _::_,[],_=>rfl
 | [],_::_,_=>rfl
 | x::l,y::m,h=>by
   rw [eD,vI (a:=l) (b:=m) (fun e=>h (by simp [e])),Bool.and_false]
def dU (a b:AV):Bool:=decide ((a.fld 0).num=(b.fld 0).num)&&(decide ((a.fld 1).num=(b.fld 1).num)&&(bL (a.fld 2).els (b.fld 2).els&&eD (a.fld 3).els (b.fld 3).els))
abbrev kX:List AV->Option AV:=nP (fun a b=>fX a/\fX b) fun a b=>.bool (dU a b)
set_option maxHeartbeats 4000000 in
theorem rsameObj_ok:Abs.Ok Tryz.prog 37 kX:=ok2 fun a b ⟨ha,hb⟩=>by
 have hua:=(tk_ob a ha).1;have hub:=(tk_ob b hb).1;obtain ⟨_,_,va,fr,rfl,⟨k,rfl⟩,⟨nu,rfl⟩,hva,hfr⟩:=ha;obtain ⟨_,_,va',fr',rfl,⟨k',rfl⟩,⟨nu',rfl⟩,hva',hfr'⟩:=hb;have cv:=(aH _ hva).2;have cf:=(bN _ hfr).2;have cv':=(aH _ hva').2;have cf':=(bN _ hfr').2;have hv:mM [va,va']=some (.bool (bL va.els va'.els)):=sg2_eq ⟨hva,hva'⟩;obtain ⟨xr,hr,hxr⟩:=hfr;obtain ⟨yr,hr',hyr⟩:=hfr';refine aF (L:=[ent 63 mM]) (elist_cons rsameVals_ok.ent aD) (fun r=>([],[1000])) (by kernel_rfl) Tryz.func37 Tryz.ntmps37 Tryz.results37 rfl rfl (aA hua.und (aA hub.und aC)) aJ ?_
 have hsp:dU (.agg [.int .i64 k,.int .i64 nu,va,fr]) (.agg [.int .i64 k',.int .i64 nu',va',fr'])=(decide (k=k')&&(decide (nu=nu')&&(bL va.els va'.els&&eD xr yr))):=by
  rw [<-hr.els,<-hr'.els];rfl
 generalize dU (.agg [.int .i64 k,.int .i64 nu,va,fr]) (.agg [.int .i64 k',.int .i64 nu',va',fr'])=W at *;by_cases k1:k=k'
 rotate_left
 ·rw [decide_eq_false k1,Bool.false_and]at hsp
  exact SK @cv @cf @cv' @cf' @k1 @hsp
 rw [decide_eq_true k1,Bool.true_and]at hsp;subst k1;by_cases k2:nu=nu'
 rotate_left
 ·rw [decide_eq_false k2,Bool.false_and]at hsp
  exact SK @cv @cf @cv' @cf' @k2 @hsp
 rw [decide_eq_true k2,Bool.true_and]at hsp;subst k2
 cases k3:bL va.els va'.els with
 | false=>
   rw [k3,Bool.false_and]at hsp;exact PX @cv @cf @cv' @cf' @hv @k3 @hsp
 | true=>
 rw [k3,Bool.true_and]at hsp
 by_cases k4:((xr.length:Nat):Int)=((yr.length:Nat):Int)
 rotate_left
 ·rw [vI aE]at hsp
  exact JH @cv @cf @cv' @cf' @hv @k3 hr.lX hr'.lX @k4 @hsp
 have k5:xr.length=yr.length:=by omega
 refine ap9 @cv @cf @cv' @cf' @hv @k3 hr.lX hr'.lX @k4 ?_;refine aQ (fun i e=>∃ t n low o,e=⟨75,none,37,t,[],⟨n,low,o⟩,.no⟩/\t.val 2=.ptr 0 0 0/\t.val 3=.ptr 1 0 0/\t.val 5=.int .i64 (i:Nat)/\o.get 0=some (aY 0 [.int .i64 k,.int .i64 nu,va,fr])/\o.get 1=some (aY 0 [.int .i64 k,.int .i64 nu,va',fr'])/\2<=n/\i<=xr.length/\W=eD (xr.drop i) (yr.drop i)) (fun i=>xr.length-i) 0 ⟨_,_,_,_,rfl,aG,aG,eP,lS,aG,aE,Nat.zero_le _,hsp⟩ ?_;rintro i _ ⟨t,n,low,o,rfl,t2,t3,t5,g0,g1,hn,hi,hq⟩;have f0:=bT (show 0<n by omega);have f1:=bT (show 1<n by omega)
 rcases Nat.lt_or_ge i xr.length with hlt | hge
 ·obtain ⟨y,hDy,hm,hg,hd,hix,hw,hc⟩:=aZ (fun x h=>tk_fr.len h) hxr hr.2 hlt
  obtain ⟨y',hDy',hm',hg',hd',hix',hw',hc'⟩:=aZ (fun x h=>tk_fr.len h) hyr hr'.2 (by omega:i<yr.length)
  have hpf:=fun {d:Option AV}=>tk_fr.pf hDy (d:=d)
  have hpf':=fun {d:Option AV}=>tk_fr.pf hDy' (d:=d)
  obtain ⟨_,p1,p2,rfl,⟨m,rfl⟩,e1,e2⟩:=hDy;obtain ⟨_,p1',p2',rfl,⟨m',rfl⟩,e1',e2'⟩:=hDy'
  have s1:=fun {Y:Nat->Prop}=>e1.choose_spec.1.stab (Y:=Y)
  have s2:=fun {Y:Nat->Prop}=>e2.choose_spec.1.stab (Y:=Y)
  have s1':=fun {Y:Nat->Prop}=>e1'.choose_spec.1.stab (Y:=Y)
  have s2':=fun {Y:Nat->Prop}=>e2'.choose_spec.1.stab (Y:=Y)
  have u1:=fun {m:Nat}=>(aH _ e1).1.mono (Nat.zero_le m)
  have d1:=(aH _ e1).2
  have u2:=fun {m:Nat}=>(aH _ e2).1.mono (Nat.zero_le m)
  have d2:=(aH _ e2).2
  have u1':=fun {m:Nat}=>(aH _ e1').1.mono (Nat.zero_le m)
  have d1':=(aH _ e1').2
  have u2':=fun {m:Nat}=>(aH _ e2').1.mono (Nat.zero_le m)
  have d2':=(aH _ e2').2;have v1:mM [p1,p1']=some (.bool (bL p1.els p1'.els)):=sg2_eq ⟨e1,e1'⟩;have v2:mM [p2,p2']=some (.bool (bL p2.els p2'.els)):=sg2_eq ⟨e2,e2'⟩;rw [hd,hd',eD,show qU (.agg [.int .i64 m,p1,p2]) (.agg [.int .i64 m',p1',p2'])=(decide (m=m')&&(bL p1.els p1'.els&&bL p2.els p2'.els)) from rfl]at hq;by_cases j1:m=m'
  rotate_left
  ·rw [decide_eq_false j1,Bool.false_and,Bool.false_and]at hq
   simp +contextual +decide (maxSteps:=1000000) only [↓ wP,wQ,tf,Nat.reduceAdd,wS,t2,t3,t5,g0,g1,f0,f1,hr.len,hr.idx,hr'.idx,hix,hix',hc,hpf,hpf',d1,d2,d1',d2',u1,u2,u1',u2',cT,j1,hq]
  rw [decide_eq_true j1,Bool.true_and]at hq;subst j1
  cases j2:bL p1.els p1'.els with
  | false=>
    rw [j2,Bool.false_and,Bool.false_and]at hq;simp +contextual +decide (maxSteps:=1000000) only [↓ wP,wQ,tf,Nat.reduceAdd,wS,t2,t3,t5,g0,g1,f0,f1,hr.len,hr.idx,hr'.idx,hix,hix',hc,hpf,hpf',d1,d2,d1',d2',u1,u2,u1',u2',cT,v1,j2,hq]
  | true=>
  rw [j2,Bool.true_and]at hq
  cases j3:bL p2.els p2'.els with
  | false=>
    rw [j3,Bool.false_and]at hq;simp +contextual +decide (maxSteps:=1000000) only [↓ wP,wQ,tf,Nat.reduceAdd,wS,t2,t3,t5,g0,g1,f0,f1,hr.len,hr.idx,hr'.idx,hix,hix',hc,hpf,hpf',d1,d2,d1',d2',u1,u2,u1',u2',cT,v1,j2,v2,j3,hq]
  | true=>
  rw [j3,Bool.true_and]at hq;simp +contextual +decide (maxSteps:=1000000) only [↓ wP,wQ,tf,Nat.reduceAdd,wS,t2,t3,t5,g0,g1,f0,f1,hr.len,hr.idx,hr'.idx,hix,hix',hc,hpf,hpf',d1,d2,d1',d2',u1,u2,u1',u2',cT,v1,j2,v2,j3,hw];exact ⟨i+1,by show _-_<_-_;omega,_,_,_,_,rfl,aP @t2,aP @t3,aG,iY @g0 @f0,iY @g1 @f1,aE,hlt,hq⟩
 ·obtain rfl:i=xr.length:=Nat.le_antisymm hi hge
  rw [List.drop_length,k5,List.drop_length,eD]at hq;exact PX @t2 @t5 @g0 @f0 hr.lX @aW @hq
end
end Go.Proofs.YtifmdaalhclhgaaGreat
