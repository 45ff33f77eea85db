/-
  The references of worlds and points: what is small.
-/
import Derived.Test.YtkocnhkbgcjpbaaGreatOf
set_option linter.unusedVariables false
set_option linter.unusedSimpArgs false
namespace Go.Proofs.YtkocnhkbgcjpbaaGreat
open Go.Abs Go Go.Abs.TryzF
noncomputable section
set_option maxRecDepth 10000
abbrev wX:List AV->Option AV:=sV iA fun a=>.bool (decide ((a.els.length:Int)<=40))
theorem smallVals_ok:Abs.Ok Tryz.prog 38 wX:=yQ fun a ha=>by
 have hua:=(aR a ha).1;obtain ⟨xs,hs,hxs⟩:=ha;rw [hs.els];refine aF (L:=[]) aE aH (by kernel_rfl) Tryz.func38 Tryz.ntmps38 Tryz.results38 rfl rfl (aA hua.und aD) aG ?_;simp +contextual +decide (maxSteps:=1000000) only [↓ wP,wQ,tf,wS,hs.len]
def jW (a:AV):Bool:=decide ((a.els.length:Int)<=40)
def wY (f:AV):Bool:=jW (f.fld 1)&&jW (f.fld 2)
def qK (o:AV):Bool:=jW (o.fld 2)&&(decide (((o.fld 3).els.length:Int)<=50)&&(o.fld 3).els.all wY)
def jX (os ts us is:List AV):Bool:=decide ((os.length:Int)<=130)&&(decide ((ts.length:Int)<=130)&&(decide ((us.length:Int)<=110)&&(decide ((is.length:Int)<=60)&&os.all qK)))
def wg (os ts us is no:AV):AV:=.agg [os,ts,us,is,no]
structure WG (os ts us is no:AV):Prop where
 os:TSl nG os
 ts:dU ts
 us:TSl nH us
 is:dU is
 no:cS no
section
variable {os ts us is no:AV}
theorem WG.wd (h:WG os ts us is no):UO (wg os ts us is no):=⟨_,_,_,_,_,rfl,h.os,h.ts,h.us,h.is,h.no⟩
theorem WG.cells (h:WG os ts us is no):os.isCell=true/\ts.isCell=true/\us.isCell=true/\is.isCell=true/\no.isCell=true:=⟨(iG _ h.os).2,(aM _ h.ts).2,(cJ _ h.us).2,(aM _ h.is).2,(tu_int _ h.no).2⟩
theorem WG.und (h:WG os ts us is no):UnderE 0 (wg os ts us is no):=(rS _ h.wd).1
set_option maxHeartbeats 16000000 in
theorem FD (h:WG os ts us is no):Abs.Returns Tryz.prog 15 [wg os ts us is no] (.bool (jX os.els ts.els us.els is.els)):=by
 obtain ⟨c1,c2,c3,c4,c5⟩:=h.cells;refine aF (L:=[ent 38 wX]) (elist_cons smallVals_ok.ent aE) aH (by kernel_rfl) Tryz.func15 Tryz.ntmps15 Tryz.results15 rfl rfl (aA h.und.und aD) aG ?_;obtain ⟨xo,ho0,hox⟩:=h.os;obtain ⟨xt,ht0,htx⟩:=h.ts;obtain ⟨xu,hu0,hux⟩:=h.us;obtain ⟨xi,hi0,hix0⟩:=h.is;rw [ho0.els,ht0.els,hu0.els,hi0.els];have hsp:jX xo xt xu xi=(decide ((xo.length:Int)<=130)&&(decide ((xt.length:Int)<=130)&&(decide ((xu.length:Int)<=110)&&(decide ((xi.length:Int)<=60)&&xo.all qK)))):=rfl;generalize jX xo xt xu xi=W at *;unfold wg;by_cases k1:((xo.length:Nat):Int) > 130
 ·rw [decide_eq_false (show ¬ ((xo.length:Nat):Int)<=130 by omega),Bool.false_and]at hsp
  simp +contextual +decide (maxSteps:=1000000) only [↓ wP,wQ,tf,Nat.reduceAdd,wS,c1,c2,c3,c4,c5,ho0.len,k1,hsp]
 by_cases k2:((xt.length:Nat):Int) > 130
 ·rw [decide_eq_false (show ¬ ((xt.length:Nat):Int)<=130 by omega),Bool.false_and,Bool.and_false]at hsp
  simp +contextual +decide (maxSteps:=1000000) only [↓ wP,wQ,tf,Nat.reduceAdd,wS,c1,c2,c3,c4,c5,ho0.len,ht0.len,k1,k2,hsp]
 by_cases k3:((xu.length:Nat):Int) > 110
 ·rw [decide_eq_false (show ¬ ((xu.length:Nat):Int)<=110 by omega),Bool.false_and,Bool.and_false,Bool.and_false]at hsp
  simp +contextual +decide (maxSteps:=1000000) only [↓ wP,wQ,tf,Nat.reduceAdd,wS,c1,c2,c3,c4,c5,ho0.len,ht0.len,hu0.len,k1,k2,k3,hsp]
 by_cases k4:((xi.length:Nat):Int) > 60
 ·rw [decide_eq_false (show ¬ ((xi.length:Nat):Int)<=60 by omega),Bool.false_and,Bool.and_false,Bool.and_false,Bool.and_false]at hsp
  simp +contextual +decide (maxSteps:=1000000) only [↓ wP,wQ,tf,Nat.reduceAdd,wS,c1,c2,c3,c4,c5,ho0.len,ht0.len,hu0.len,hi0.len,k1,k2,k3,k4,hsp]
 rw [decide_eq_true (show ((xo.length:Nat):Int)<=130 by omega),Bool.true_and,decide_eq_true (show ((xt.length:Nat):Int)<=130 by omega),Bool.true_and,decide_eq_true (show ((xu.length:Nat):Int)<=110 by omega),Bool.true_and,decide_eq_true (show ((xi.length:Nat):Int)<=60 by omega),Bool.true_and]at hsp;simp +contextual +decide (maxSteps:=1000000) only [↓ wP,wQ,tf,Nat.reduceAdd,wS,c1,c2,c3,c4,c5,ho0.len,ht0.len,hu0.len,hi0.len,k1,k2,k3,k4];refine aP (fun i e=>∃ t n low o,e=⟨75,none,15,t,[],⟨n,low,o⟩,.no⟩/\t.val 1=.ptr 0 0 0/\t.val 3=.int .i64 (i:Nat)/\o.get 0=some (aS 0 [os,ts,us,is,no])/\1<=n/\i<=xo.length/\W=(xo.drop i).all qK) (fun i=>xo.length-i) 0 ⟨_,_,_,_,rfl,by simp +decide only [↓ aB],by simp +decide only [↓ aB];rfl,by simp +decide only [↓ aB],by omega,Nat.zero_le _,hsp⟩ ?_;rintro i _ ⟨t,n,low,o,rfl,t1,t3,g0,hn,hi,hq⟩;have f0:=dC (show 0<n by omega)
 rcases Nat.lt_or_ge i xo.length with hlt | hge
 ·obtain ⟨y,hDy,hm,hg,hd,hix,hw,hc⟩:=aZ (fun x h=>tk_ob.len h) hox ho0.2 hlt
  have hpf:=fun {d:Option AV}=>tk_ob.pf hDy (d:=d)
  rw [hd,List.all_cons]at hq;obtain ⟨_,_,va,fr,rfl,⟨ki,rfl⟩,⟨nn,rfl⟩,hva,hfr⟩:=hDy;have cv:=(aR _ hva).2;have cf:=(fV _ hfr).2;have hva0:wX [va]=some (.bool (jW va)):=bT hva;obtain ⟨xr,hr0,hrx⟩:=hfr;rw [show qK (.agg [.int .i64 ki,.int .i64 nn,va,fr])=(jW va&&(decide ((xr.length:Int)<=50)&&xr.all wY)) by rw [<-hr0.els];rfl]at hq
  cases k5:jW va with
  | false=>
    rw [k5,Bool.false_and,Bool.false_and]at hq;simp +contextual +decide (maxSteps:=1000000) only [↓ wP,wQ,tf,Nat.reduceAdd,wS,t1,t3,g0,f0,cv,cf,ho0.len,ho0.idx,hix,hc,hpf,hva0,k5,jR,hq]
  | true=>
  rw [k5,Bool.true_and]at hq;by_cases k6:((xr.length:Nat):Int) > 50
  ·rw [decide_eq_false (show ¬ ((xr.length:Nat):Int)<=50 by omega),Bool.false_and,Bool.false_and]at hq
   simp +contextual +decide (maxSteps:=1000000) only [↓ wP,wQ,tf,Nat.reduceAdd,wS,t1,t3,g0,f0,cv,cf,ho0.len,ho0.idx,hix,hc,hpf,hva0,k5,hr0.len,k6,jR,hq]
  rw [decide_eq_true (show ((xr.length:Nat):Int)<=50 by omega),Bool.true_and]at hq;simp +contextual +decide (maxSteps:=1000000) only [↓ wP,wQ,tf,Nat.reduceAdd,wS,t1,t3,g0,f0,cv,cf,ho0.len,ho0.idx,hix,hc,hpf,hva0,k5,hr0.len,k6,jR]
  refine aP (fun j e=>∃ t k low o m,e=⟨75,none,15,t,[],⟨k,low,o⟩,.no⟩/\t.val 1=.ptr 0 0 0/\t.val 3=.int .i64 (i:Nat)/\t.val 4=.ptr m 0 0/\t.val 5=.int .i64 (j:Nat)/\o.get 0=some (aS 0 [os,ts,us,is,no])/\o.get m=some (aS 0 [.int .i64 ki,.int .i64 nn,va,fr])/\0<k/\m<k/\j<=xr.length/\W=((xr.drop j).all wY&&(xo.drop (i+1)).all qK)) (fun j=>xr.length-j) 0
   ⟨_,_,_,_,n,rfl,by simp +decide only [↓ aB,t1],by simp +decide only [↓ aB,t3],by simp +decide only [↓ aB],by simp +decide only [↓ aB];rfl,by simp +decide only [↓ aB,bE,ne_eq,g0,f0],by simp +decide only [↓ aB],by omega,by omega,Nat.zero_le _,hq⟩ ?_
  clear t1 t3 g0 f0 hq hn;clear t;rintro j _ ⟨t,k,low,o,m,rfl,t1,t3,t4,t5,g0,gm,hk1,hk2,hj,hq⟩;have f0:=dC hk1;have fm:=dC hk2
  rcases Nat.lt_or_ge j xr.length with hjt | hjg
  ·obtain ⟨y2,hDy2,hm2,hg2,hd2,hix2,hw2,hc2⟩:=aZ (fun x h=>tk_fr.len h) hrx hr0.2 hjt
   rw [hd2,List.all_cons]at hq;obtain ⟨_,va1,va2,rfl,⟨ni,rfl⟩,h1,h2⟩:=hDy2;have e1:wX [va1]=some (.bool (jW va1)):=bT h1;have e2:wX [va2]=some (.bool (jW va2)):=bT h2;have cv1:=(aR _ h1).2;have cv2:=(aR _ h2).2;rw [show wY (.agg [.int .i64 ni,va1,va2])=(jW va1&&jW va2) from rfl]at hq
   cases k7:jW va1 with
   | false=>
     rw [k7,Bool.false_and,Bool.false_and]at hq;simp +contextual +decide (maxSteps:=1000000) only [↓ wP,wQ,tf,Nat.reduceAdd,wS,t4,t5,gm,fm,cv1,hr0.len,hr0.idx,hix2,hc2,e1,k7,hq]
   | true=>
   rw [k7,Bool.true_and]at hq
   cases k8:jW va2 with
   | false=>
     rw [k8,Bool.false_and]at hq;simp +contextual +decide (maxSteps:=1000000) only [↓ wP,wQ,tf,Nat.reduceAdd,wS,t4,t5,gm,fm,cv1,cv2,hr0.len,hr0.idx,hix2,hc2,e1,k7,e2,k8,hq]
   | true=>
   rw [k8,Bool.true_and]at hq;simp +contextual +decide (maxSteps:=1000000) only [↓ wP,wQ,tf,Nat.reduceAdd,wS,t4,t5,gm,fm,cv1,cv2,hr0.len,hr0.idx,hix2,hc2,e1,k7,e2,k8,hw2];exact ⟨j+1,by show _-_<_-_;omega,_,_,_,_,_,rfl,by simp +decide only [↓ aB,t1],by simp +decide only [↓ aB,t3],by simp +decide only [↓ aB,t4],by simp +decide only [↓ aB],by simp +decide only [g0],by simp +decide only [gm],hk1,hk2,hjt,hq⟩
  ·obtain rfl:j=xr.length:=Nat.le_antisymm hj hjg
   rw [List.drop_length,List.all_nil,Bool.true_and]at hq;simp +contextual +decide (maxSteps:=1000000) only [↓ wP,wQ,tf,Nat.reduceAdd,wS,t3,t4,t5,gm,fm,hr0.len,bB,hw];exact ⟨i+1,by show _-_<_-_;omega,_,_,_,_,rfl,by simp +decide only [↓ aB,t1],by simp +decide only [↓ aB],by simp +decide only [g0],hk1,hlt,hq⟩
 ·obtain rfl:i=xo.length:=Nat.le_antisymm hi hge
  rw [List.drop_length,List.all_nil]at hq;simp +contextual +decide (maxSteps:=1000000) only [↓ wP,wQ,tf,Nat.reduceAdd,wS,t1,t3,g0,f0,ho0.len,bB,hq]
end
abbrev BK:List AV->Option AV:=sV UO fun a=>.bool (jX (a.fld 0).els (a.fld 1).els (a.fld 2).els (a.fld 3).els)
theorem smallWV_ok:Abs.Ok Tryz.prog 15 BK:=yQ fun a ⟨os,ts,us,is,no,e,h1,h2,h3,h4,h5⟩=>by
 subst e;exact FD ⟨h1,h2,h3,h4,h5⟩
abbrev qL:=TSl oD
theorem iR:Tu qL:=iS (zI tu_bool)
def lE (os ts us is no os' ts' us' is' no' d g:AV):AV:=.agg [os,ts,us,is,no,os',ts',us',is',no',d,g]
structure SG (os ts us is no os' ts' us' is' no' d g:AV):Prop where
 w:WG os ts us is no
 s:WG os' ts' us' is' no'
 d:qL d
 g:qL g
section
variable {os ts us is no os' ts' us' is' no' d g:AV}
theorem SG.cells (h:SG os ts us is no os' ts' us' is' no' d g):d.isCell=true/\g.isCell=true:=⟨(iR _ h.d).2,(iR _ h.g).2⟩
theorem SG.und (h:SG os ts us is no os' ts' us' is' no' d g):UnderE 0 (lE os ts us is no os' ts' us' is' no' d g):=by
 refine gM fun x hx=>?_
 simp only [List.mem_cons,List.not_mem_nil,or_false]at hx
 rcases hx with rfl | rfl | rfl | rfl | rfl | rfl | rfl | rfl | rfl | rfl | rfl | rfl
 ·exact (iG _ h.w.os).1
 ·exact (aM _ h.w.ts).1
 ·exact (cJ _ h.w.us).1
 ·exact (aM _ h.w.is).1
 ·exact (tu_int _ h.w.no).1
 ·exact (iG _ h.s.os).1
 ·exact (aM _ h.s.ts).1
 ·exact (cJ _ h.s.us).1
 ·exact (aM _ h.s.is).1
 ·exact (tu_int _ h.s.no).1
 ·exact (iR _ h.d).1
 ·exact (iR _ h.g).1
theorem uP {a b c d e a' b' c' d' e' x y:AV}:aW [a,b,c,d,e,a',b',c',d',e',x,y] 0 5=[a,b,c,d,e]:=rfl
theorem HS {a b c d e a' b' c' d' e' x y:AV}:aW [a,b,c,d,e,a',b',c',d',e',x,y] 5 5=[a',b',c',d',e']:=rfl
def mV (os ts us is no os' ts' us' is' no' d g:AV):Bool:=jX os.els ts.els us.els is.els&&(jX os'.els ts'.els us'.els is'.els&&(decide ((d.els.length:Int)<=200)&&decide ((g.els.length:Int)<=200)))
theorem FE (h:SG os ts us is no os' ts' us' is' no' d g):Abs.Returns Tryz.prog 7 [lE os ts us is no os' ts' us' is' no' d g] (.bool (mV os ts us is no os' ts' us' is' no' d g)):=by
 obtain ⟨c1,c2,c3,c4,c5⟩:=h.w.cells;obtain ⟨c6,c7,c8,c9,c10⟩:=h.s.cells;obtain ⟨c11,c12⟩:=h.cells;have e1:BK [.agg [os,ts,us,is,no]]=some (.bool (jX os.els ts.els us.els is.els)):=bT h.w.wd;have e2:BK [.agg [os',ts',us',is',no']]=some (.bool (jX os'.els ts'.els us'.els is'.els)):=bT h.s.wd;refine aF (L:=[ent 15 BK]) (elist_cons smallWV_ok.ent aE) aH (by kernel_rfl) Tryz.func7 Tryz.ntmps7 Tryz.results7 rfl rfl (aA h.und.und aD) aG ?_;obtain ⟨xd,hd0,hdx⟩:=h.d;obtain ⟨xg,hg0,hgx⟩:=h.g;unfold mV lE;rw [hd0.els,hg0.els]
 cases k1:jX os.els ts.els us.els is.els with
 | false=>simp +contextual +decide (maxSteps:=1000000) only [↓ wP,wQ,tf,Nat.reduceAdd,wS,c1,c2,c3,c4,c5,c6,c7,c8,c9,c10,c11,c12,uP,e1,k1]
 | true=>
 cases k2:jX os'.els ts'.els us'.els is'.els with
 | false=>simp +contextual +decide (maxSteps:=1000000) only [↓ wP,wQ,tf,Nat.reduceAdd,wS,c1,c2,c3,c4,c5,c6,c7,c8,c9,c10,c11,c12,uP,HS,e1,k1,e2,k2]
 | true=>
 by_cases k3:((xd.length:Nat):Int)<=200
 ·simp +contextual +decide (maxSteps:=1000000) only [↓ wP,wQ,tf,Nat.reduceAdd,wS,c1,c2,c3,c4,c5,c6,c7,c8,c9,c10,c11,c12,uP,HS,e1,k1,e2,k2,hd0.len,k3,hg0.len]
 ·simp +contextual +decide (maxSteps:=1000000) only [↓ wP,wQ,tf,Nat.reduceAdd,wS,c1,c2,c3,c4,c5,c6,c7,c8,c9,c10,c11,c12,uP,HS,e1,k1,e2,k2,hd0.len,k3]
end
def aMo (v:AV):Int × Int:=((v.fld 0).num,(v.fld 1).num)
def cB (a b:List AV):Bool:=decide (a.map aMo=b.map aMo)
theorem vI {k n k' n':Int} {a b:List AV}:cB (.agg [.int .i64 k,.int .i64 n]::a) (.agg [.int .i64 k',.int .i64 n']::b)=(decide (k=k'/\n=n')&&cB a b):=by
 simp only [cB,List.map_cons,List.cons.injEq];rw [Bool.decide_and]
 congr 1
 exact decide_eq_decide.2 (by simp [aMo,AV.fld,AV.num])
theorem yY {a b:List AV} (h:¬ a.length=b.length):cB a b=false:=by
 simp only [cB,decide_eq_false_iff_not];intro e;have:=congrArg List.length e;simp at this;exact h this
theorem aRq {x y:Operand} {k n k' n':Int}:nU Tryz.prog .neq 66 x y (.agg [.int .i64 k,.int .i64 n]) (.agg [.int .i64 k',.int .i64 n'])=true:=by kernel_rfl
theorem aPj {k n k' n':Int}:GX Tryz.prog 10000 66 (.agg [.int .i64 k,.int .i64 n]) (.agg [.int .i64 k',.int .i64 n'])=some (decide (k=k'/\n=n')):=by
 have h2:GX Tryz.prog 10000 66 (.agg [.int .i64 k,.int .i64 n]) (.agg [.int .i64 k',.int .i64 n'])=aeqs Tryz.prog (GX Tryz.prog 9999) [.int .i64 k,.int .i64 n] [.int .i64 k',.int .i64 n'] [(64,0),(3,1)]:=by kernel_rfl
 have q3:∀ {k k':Int},GX Tryz.prog 9999 64 (.int .i64 k) (.int .i64 k')=some (lZ k k'):=by intro _ _;kernel_rfl
 have q4:∀ {k k':Int},GX Tryz.prog 9999 3 (.int .i64 k) (.int .i64 k')=some (lZ k k'):=by intro _ _;kernel_rfl
 have q5:∀ {k k':AV},kU Tryz.prog 64 [k,k'] 0=some k:=by intro _ _;kernel_rfl
 have q6:∀ {k k':AV},kU Tryz.prog 3 [k,k'] 1=some k':=by intro _ _;kernel_rfl
 rw [h2];simp only [aeqs,q3,q4,q5,q6,fE]
 have hb:∀ a b:Int,(a==b)=decide (a=b):=fun a b=>rfl
 rw [hb,hb,Bool.decide_and];cases decide (k=k')<;>cases decide (n=n')<;>rfl
theorem HT {x y:Operand} {k n k' n':Int}:cU Tryz.prog .neq 66 x y (.agg [.int .i64 k,.int .i64 n]) (.agg [.int .i64 k',.int .i64 n'])=some (.bool (!decide (k=k'/\n=n'))):=by
 simp only [cU,aRq,cond_true,aPj]
abbrev mW:List AV->Option AV:=rX (fun a b=>iA a/\iA b) fun a b=>.bool (cB a.els b.els)
set_option maxHeartbeats 1000000 in
theorem rsameVals_ok:Abs.Ok Tryz.prog 60 mW:=ok2 fun a b ⟨ha,hb⟩=>by
 have hua:=(aR a ha).1;have hub:=(aR b hb).1;obtain ⟨xs,hs,hxs⟩:=ha;obtain ⟨ys,hy,hys⟩:=hb;rw [hs.els,hy.els];refine aF (L:=[]) aE aH (by kernel_rfl) Tryz.func60 Tryz.ntmps60 Tryz.results60 rfl rfl (aA hua.und (aA hub.und aD)) aG ?_;have hsp:cB xs ys=cB xs ys:=rfl
 by_cases k0:((xs.length:Nat):Int)=((ys.length:Nat):Int)
 rotate_left
 ·rw [yY (by omega)]
  simp +contextual +decide (maxSteps:=1000000) only [↓ wP,wQ,tf,wS,hs.len,hy.len,k0]
 have k1:xs.length=ys.length:=by omega
 have hsp:∃ W,W=cB xs ys:=⟨_,rfl⟩
 obtain ⟨W,hsp⟩:=hsp;rw [<-hsp];simp +contextual +decide (maxSteps:=1000000) only [↓ wP,wQ,tf,wS,hs.len,hy.len,k0];refine aP (fun i e=>∃ t n low o,e=⟨26,none,60,t,[],⟨n,low,o⟩,.no⟩/\t.val 0=a/\t.val 1=b/\t.val 5=.int .i64 (i:Nat)/\0<=n/\i<=xs.length/\W=cB (xs.drop i) (ys.drop i)) (fun i=>xs.length-i) 0 ⟨_,_,_,_,rfl,by simp +decide only [↓ aB,cC,bE],by simp +decide only [↓ aB,cC,bE],by simp +decide only [↓ aB];rfl,by omega,Nat.zero_le _,hsp⟩ ?_;rintro i _ ⟨t,n,low,o,rfl,t0,t1,t5,hn,hi,hq⟩
 rcases Nat.lt_or_ge i xs.length with hlt | hge
 ·obtain ⟨y,hDy,hm,hg,hd,hix,hw,hc⟩:=aZ (fun x h=>tk_val.len h) hxs hs.2 hlt
  obtain ⟨y',hDy',hm',hg',hd',hix',hw',hc'⟩:=aZ (fun x h=>tk_val.len h) hys hy.2 (by omega:i<ys.length)
  have hpf:=fun {d:Option AV}=>tk_val.pf hDy (d:=d)
  have hpf':=fun {d:Option AV}=>tk_val.pf hDy' (d:=d)
  obtain ⟨_,_,rfl,⟨k,rfl⟩,⟨n',rfl⟩⟩:=hDy;obtain ⟨_,_,rfl,⟨k',rfl⟩,⟨m',rfl⟩⟩:=hDy';rw [hd,hd',vI]at hq;by_cases k2:k=k'/\n'=m'
  ·rw [decide_eq_true k2,Bool.true_and]at hq
   obtain ⟨rfl,rfl⟩:=k2;simp +contextual +decide (maxSteps:=1000000) only [↓ wP,wQ,tf,Nat.reduceAdd,wS,t0,t1,t5,hs.len,hs.idx,hy.idx,hix,hix',hc,hpf,HT,hw];exact ⟨i+1,by show _-_<_-_;omega,_,_,_,_,rfl,by simp +decide only [↓ aB,t0],by simp +decide only [↓ aB,t1],by simp +decide only [↓ aB],by omega,hlt,hq⟩
  ·rw [decide_eq_false k2,Bool.false_and]at hq
   simp +contextual +decide (maxSteps:=1000000) only [↓ wP,wQ,tf,Nat.reduceAdd,wS,t0,t1,t5,hs.len,hs.idx,hy.idx,hix,hix',hc,hpf,hpf',HT,k2,hq]
 ·obtain rfl:i=xs.length:=Nat.le_antisymm hi hge
  rw [List.drop_length,k1,List.drop_length]at hq;rw [show cB [] []=true from rfl]at hq;simp +contextual +decide (maxSteps:=1000000) only [↓ wP,wQ,tf,wS,t0,t5,hs.len,bB,hq]
def mC (f g:AV):Bool:=decide ((f.fld 0).num=(g.fld 0).num)&&(cB (f.fld 1).els (g.fld 1).els&&cB (f.fld 2).els (g.fld 2).els)
def dL:List AV->List AV->Bool
 | [],[]=>true
 | f::l,g::m=>mC f g&&dL l m
 | _,_=>false
theorem vJ:∀ {a b:List AV},¬ a.length=b.length->dL a b=false
 | [],[],h=>absurd rfl h
 | _::_,[],_=>rfl
 | [],_::_,_=>rfl
 | x::l,y::m,h=>by
   rw [dL,vJ (a:=l) (b:=m) (fun e=>h (by simp [e])),Bool.and_false]
def eC (a b:AV):Bool:=decide ((a.fld 0).num=(b.fld 0).num)&&(decide ((a.fld 1).num=(b.fld 1).num)&&(cB (a.fld 2).els (b.fld 2).els&&dL (a.fld 3).els (b.fld 3).els))
abbrev mX:List AV->Option AV:=rX (fun a b=>nG a/\nG b) fun a b=>.bool (eC a b)
set_option maxHeartbeats 4000000 in
theorem rsameObj_ok:Abs.Ok Tryz.prog 48 mX:=ok2 fun a b ⟨ha,hb⟩=>by
 have hua:=(tk_ob a ha).1;have hub:=(tk_ob b hb).1;obtain ⟨_,_,va,fr,rfl,⟨k,rfl⟩,⟨nu,rfl⟩,hva,hfr⟩:=ha;obtain ⟨_,_,va',fr',rfl,⟨k',rfl⟩,⟨nu',rfl⟩,hva',hfr'⟩:=hb;have cv:=(aR _ hva).2;have cf:=(fV _ hfr).2;have cv':=(aR _ hva').2;have cf':=(fV _ hfr').2;have hv:mW [va,va']=some (.bool (cB va.els va'.els)):=sg2_eq ⟨hva,hva'⟩;obtain ⟨xr,hr,hxr⟩:=hfr;obtain ⟨yr,hr',hyr⟩:=hfr';refine aF (L:=[ent 60 mW]) (elist_cons rsameVals_ok.ent aE) (fun r=>([],[1000])) (by kernel_rfl) Tryz.func48 Tryz.ntmps48 Tryz.results48 rfl rfl (aA hua.und (aA hub.und aD)) aG ?_
 have hsp:eC (.agg [.int .i64 k,.int .i64 nu,va,fr]) (.agg [.int .i64 k',.int .i64 nu',va',fr'])=(decide (k=k')&&(decide (nu=nu')&&(cB va.els va'.els&&dL xr yr))):=by
  rw [<-hr.els,<-hr'.els];rfl
 generalize eC (.agg [.int .i64 k,.int .i64 nu,va,fr]) (.agg [.int .i64 k',.int .i64 nu',va',fr'])=W at *;by_cases k1:k=k'
 rotate_left
 ·rw [decide_eq_false k1,Bool.false_and]at hsp
  simp +contextual +decide (maxSteps:=1000000) only [↓ wP,wQ,tf,Nat.reduceAdd,wS,cv,cf,cv',cf',k1,hsp]
 rw [decide_eq_true k1,Bool.true_and]at hsp;subst k1;by_cases k2:nu=nu'
 rotate_left
 ·rw [decide_eq_false k2,Bool.false_and]at hsp
  simp +contextual +decide (maxSteps:=1000000) only [↓ wP,wQ,tf,Nat.reduceAdd,wS,cv,cf,cv',cf',k2,hsp]
 rw [decide_eq_true k2,Bool.true_and]at hsp;subst k2
 cases k3:cB va.els va'.els with
 | false=>
   rw [k3,Bool.false_and]at hsp;simp +contextual +decide (maxSteps:=1000000) only [↓ wP,wQ,tf,Nat.reduceAdd,wS,cv,cf,cv',cf',hv,k3,hsp]
 | true=>
 rw [k3,Bool.true_and]at hsp
 by_cases k4:((xr.length:Nat):Int)=((yr.length:Nat):Int)
 rotate_left
 ·rw [vJ (by omega)]at hsp
  simp +contextual +decide (maxSteps:=1000000) only [↓ wP,wQ,tf,Nat.reduceAdd,wS,cv,cf,cv',cf',hv,k3,hr.len,hr'.len,k4,hsp]
 have k5:xr.length=yr.length:=by omega
 simp +contextual +decide (maxSteps:=1000000) only [↓ wP,wQ,tf,Nat.reduceAdd,wS,cv,cf,cv',cf',hv,k3,hr.len,hr'.len,k4];refine aP (fun i e=>∃ t n low o,e=⟨75,none,48,t,[],⟨n,low,o⟩,.no⟩/\t.val 2=.ptr 0 0 0/\t.val 3=.ptr 1 0 0/\t.val 5=.int .i64 (i:Nat)/\o.get 0=some (aS 0 [.int .i64 k,.int .i64 nu,va,fr])/\o.get 1=some (aS 0 [.int .i64 k,.int .i64 nu,va',fr'])/\2<=n/\i<=xr.length/\W=dL (xr.drop i) (yr.drop i)) (fun i=>xr.length-i) 0 ⟨_,_,_,_,rfl,by simp +decide only [↓ aB],by simp +decide only [↓ aB],by simp +decide only [↓ aB];rfl,by simp +decide only [↓ aB,ne_eq],by simp +decide only [↓ aB],by omega,Nat.zero_le _,hsp⟩ ?_;rintro i _ ⟨t,n,low,o,rfl,t2,t3,t5,g0,g1,hn,hi,hq⟩;have f0:=dC (show 0<n by omega);have f1:=dC (show 1<n by omega)
 rcases Nat.lt_or_ge i xr.length with hlt | hge
 ·obtain ⟨y,hDy,hm,hg,hd,hix,hw,hc⟩:=aZ (fun x h=>tk_fr.len h) hxr hr.2 hlt
  obtain ⟨y',hDy',hm',hg',hd',hix',hw',hc'⟩:=aZ (fun x h=>tk_fr.len h) hyr hr'.2 (by omega:i<yr.length)
  have hpf:=fun {d:Option AV}=>tk_fr.pf hDy (d:=d)
  have hpf':=fun {d:Option AV}=>tk_fr.pf hDy' (d:=d)
  obtain ⟨_,p1,p2,rfl,⟨m,rfl⟩,e1,e2⟩:=hDy;obtain ⟨_,p1',p2',rfl,⟨m',rfl⟩,e1',e2'⟩:=hDy'
  have s1:=fun {Y:Nat->Prop}=>e1.choose_spec.1.stab (Y:=Y)
  have s2:=fun {Y:Nat->Prop}=>e2.choose_spec.1.stab (Y:=Y)
  have s1':=fun {Y:Nat->Prop}=>e1'.choose_spec.1.stab (Y:=Y)
  have s2':=fun {Y:Nat->Prop}=>e2'.choose_spec.1.stab (Y:=Y)
  have u1:=fun {m:Nat}=>(aR _ e1).1.mono (Nat.zero_le m)
  have d1:=(aR _ e1).2
  have u2:=fun {m:Nat}=>(aR _ e2).1.mono (Nat.zero_le m)
  have d2:=(aR _ e2).2
  have u1':=fun {m:Nat}=>(aR _ e1').1.mono (Nat.zero_le m)
  have d1':=(aR _ e1').2
  have u2':=fun {m:Nat}=>(aR _ e2').1.mono (Nat.zero_le m)
  have d2':=(aR _ e2').2;have v1:mW [p1,p1']=some (.bool (cB p1.els p1'.els)):=sg2_eq ⟨e1,e1'⟩;have v2:mW [p2,p2']=some (.bool (cB p2.els p2'.els)):=sg2_eq ⟨e2,e2'⟩;rw [hd,hd',dL,show mC (.agg [.int .i64 m,p1,p2]) (.agg [.int .i64 m',p1',p2'])=(decide (m=m')&&(cB p1.els p1'.els&&cB p2.els p2'.els)) from rfl]at hq;by_cases j1:m=m'
  rotate_left
  ·rw [decide_eq_false j1,Bool.false_and,Bool.false_and]at hq
   simp +contextual +decide (maxSteps:=1000000) only [↓ wP,wQ,tf,Nat.reduceAdd,wS,t2,t3,t5,g0,g1,f0,f1,hr.len,hr.idx,hr'.idx,hix,hix',hc,hpf,hpf',d1,d2,d1',d2',u1,u2,u1',u2',jR,j1,hq]
  rw [decide_eq_true j1,Bool.true_and]at hq;subst j1
  cases j2:cB p1.els p1'.els with
  | false=>
    rw [j2,Bool.false_and,Bool.false_and]at hq;simp +contextual +decide (maxSteps:=1000000) only [↓ wP,wQ,tf,Nat.reduceAdd,wS,t2,t3,t5,g0,g1,f0,f1,hr.len,hr.idx,hr'.idx,hix,hix',hc,hpf,hpf',d1,d2,d1',d2',u1,u2,u1',u2',jR,v1,j2,hq]
  | true=>
  rw [j2,Bool.true_and]at hq
  cases j3:cB p2.els p2'.els with
  | false=>
    rw [j3,Bool.false_and]at hq;simp +contextual +decide (maxSteps:=1000000) only [↓ wP,wQ,tf,Nat.reduceAdd,wS,t2,t3,t5,g0,g1,f0,f1,hr.len,hr.idx,hr'.idx,hix,hix',hc,hpf,hpf',d1,d2,d1',d2',u1,u2,u1',u2',jR,v1,j2,v2,j3,hq]
  | true=>
  rw [j3,Bool.true_and]at hq;simp +contextual +decide (maxSteps:=1000000) only [↓ wP,wQ,tf,Nat.reduceAdd,wS,t2,t3,t5,g0,g1,f0,f1,hr.len,hr.idx,hr'.idx,hix,hix',hc,hpf,hpf',d1,d2,d1',d2',u1,u2,u1',u2',jR,v1,j2,v2,j3,hw];exact ⟨i+1,by show _-_<_-_;omega,_,_,_,_,rfl,by simp +decide only [↓ aB,t2],by simp +decide only [↓ aB,t3],by simp +decide only [↓ aB],by simp +decide only [↓ aB,bE,ne_eq,g0,f0],by simp +decide only [↓ aB,bE,ne_eq,g1,f1],by omega,hlt,hq⟩
 ·obtain rfl:i=xr.length:=Nat.le_antisymm hi hge
  rw [List.drop_length,k5,List.drop_length,dL]at hq;simp +contextual +decide (maxSteps:=1000000) only [↓ wP,wQ,tf,Nat.reduceAdd,wS,t2,t5,g0,f0,hr.len,bB,hq]
def CR:AV:=.agg [.int .i64 0,.int .i64 0,.nils,.nils]
def zX (o:AV):Bool:=eC o CR
theorem LS:nG CR:=⟨_,_,_,_,rfl,⟨_,rfl⟩,⟨_,rfl⟩,⟨[],⟨.inl ⟨rfl,rfl⟩,by simp⟩,by simp⟩,⟨[],⟨.inl ⟨rfl,rfl⟩,by simp⟩,by simp⟩⟩
abbrev aBv:List AV->Option AV:=sV nG fun a=>.bool (zX a)
theorem bare_ok:Abs.Ok Tryz.prog 71 aBv:=yQ fun a ha=>by
 have hua:=(tk_ob a ha).1;have he:mX [a,.agg [.int .i64 0,.int .i64 0,.nils,.nils]]=some (.bool (zX a)):=sg2_eq ⟨ha,LS⟩;obtain ⟨ys,rfl,hyl,hyc⟩:=(tk_ob a ha).2
 have hz:0+4<=ys.length:=by omega
 refine aF (L:=[ent 48 mX]) (elist_cons rsameObj_ok.ent aE) aH (by kernel_rfl) Tryz.func71 Tryz.ntmps71 Tryz.results71 rfl rfl (aA hua.und aD) aG ?_;simp +contextual +decide (maxSteps:=1000000) only [↓ wP,wQ,tf,Nat.reduceAdd,wS,hyl,hyc,bH hyl,he]
end
end Go.Proofs.YtkocnhkbgcjpbaaGreat
