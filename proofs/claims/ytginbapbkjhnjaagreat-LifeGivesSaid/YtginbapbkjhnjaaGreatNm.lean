/-
  The reference of meanings: worlds as they are defined.
-/
import Derived.Test.YtginbapbkjhnjaaGreatNk
set_option linter.unusedVariables false
set_option linter.unusedSimpArgs false
namespace Go.Proofs.YtginbapbkjhnjaaGreat
open Go.Abs Go Go.Abs.TryzF
noncomputable section
set_option maxRecDepth 10000
def fI (most:Int) (xs:List AV):Bool:=decide ((xs.length:Int)<=most)&&xs.all fun x=>mL x.num
abbrev KG:List AV->Option AV:=rV (fun a b=>fF a/\cD b) fun a b=>.bool (fI b.num a.els)
theorem rInts_ok:Abs.Ok Tryz.prog 92 KG:=ok2 fun a b ⟨ha,hb⟩=>by
 obtain ⟨most,rfl⟩:=hb
 have hua:=(aP a ha).1
 obtain ⟨xs,hs,hxs⟩:=ha
 have hl:=hs.2
 refine aH (L:=[ent 93 fK]) (elist_cons rIn6_ok.ent aG) aO (by kernel_rfl) Tryz.func92 Tryz.ntmps92 Tryz.results92 rfl rfl (aA hua.und (aA aQ aF)) aL ?_
 rw [hs.els,show (AV.int .i64 most).num=most from rfl]
 simp +contextual +decide (maxSteps:=1000000) only [↓ wP,wQ,tf,Nat.reduceAdd,wS,reduceCtorEq]
 refine bA (fun i e=>∃ t n low o,e=⟨27,none,92,t,[],⟨n,low,o⟩,.no⟩/\t.val 0=a/\t.val 1=.int .i64 most/\t.val 5=.int .i64 (i:Nat)/\0<=n/\i<=xs.length/\fI most xs=(decide ((xs.length:Int)<=most)&&(xs.drop i).all fun x=>mL x.num)) (fun i=>xs.length-i) 0 ⟨_,_,_,_,rfl,by simp +decide only [↓ aC,aE,aD],by simp +decide only [↓ aC,aE,aD],by simp +decide only [↓ aC,aE,aD];rfl,by omega,Nat.zero_le _,rfl⟩ ?_
 rintro i _ ⟨t,n,low,o,rfl,t0,t1,t5,hn,hi,hq⟩
 rcases Nat.lt_or_ge i xs.length with hlt | hge
 ·obtain ⟨y,hDy,hm,hg,hd,hix,hw,hc⟩:=bO (fun x h=>tu_int.len h) hxs hl hlt
  rw [hd,List.all_cons]at hq
  have hpf:=fun {d:Option AV}=>tu_int.pf hDy (d:=d)
  obtain ⟨z,rfl⟩:=hDy
  by_cases km:((i:Nat):Int)<=most
  ·cases hp:mL z with
   | false=>
     rw [show (AV.int .i64 z).num=z from rfl,hp,Bool.false_and,Bool.and_false]at hq
     have hp':inR z (-1000000000) 1000000000=false:=hp
     simp +contextual +decide (maxSteps:=1000000) only [↓ wP,wQ,tf,Nat.reduceAdd,wS,reduceCtorEq,t0,t1,t5,hs.len,hs.idx,hix,hc,hpf,km,aI,hp',hq]
   | true=>
     rw [show (AV.int .i64 z).num=z from rfl,hp,Bool.true_and]at hq
     have hp':inR z (-1000000000) 1000000000=true:=hp
     simp +contextual +decide (maxSteps:=1000000) only [↓ wP,wQ,tf,Nat.reduceAdd,wS,reduceCtorEq,t0,t1,t5,hs.len,hs.idx,hix,hc,hpf,km,aI,hp',hw]
     exact ⟨i+1,by show _-_<_-_;omega,_,_,_,_,rfl,by simp +decide only [↓ aC,aE,aD,t0],by simp +decide only [↓ aC,aE,aD,t1],by simp +decide only [↓ aC,aE,aD],by omega,hlt,hq⟩
  ·have hgt:(((xs.length:Nat):Int)<=most)=False:=eq_false (by omega)
   rw [decide_eq_false (fun h=>(hgt ▸ h:False)),Bool.false_and]at hq
   simp +contextual +decide (maxSteps:=1000000) only [↓ wP,wQ,tf,Nat.reduceAdd,wS,reduceCtorEq,t0,t1,t5,hs.len,hc,km,hgt,hq]
 ·obtain rfl:i=xs.length:=Nat.le_antisymm hi hge
  rw [List.drop_length,List.all_nil,Bool.and_true]at hq
  simp +contextual +decide (maxSteps:=1000000) only [↓ wP,wQ,tf,Nat.reduceAdd,wS,reduceCtorEq,t0,t1,t5,hs.len,bF,hq]
abbrev sS:List AV->Option AV:=rV (fun a b=>fF a/\cD b) fun a b=>.bool (a.els.any fun x=>decide (x.num=b.num))
theorem rlisted_ok:Abs.Ok Tryz.prog 141 sS:=ok2 fun a b ⟨ha,hb⟩=>by
 obtain ⟨m,rfl⟩:=hb
 have hua:=(aP a ha).1
 obtain ⟨xs,hs,hxs⟩:=ha
 have hl:=hs.2
 refine aH (L:=[]) aG aO (by kernel_rfl) Tryz.func141 Tryz.ntmps141 Tryz.results141 rfl rfl (aA hua.und (aA aQ aF)) aL ?_
 rw [hs.els,show (AV.int .i64 m).num=m from rfl]
 simp +contextual +decide (maxSteps:=1000000) only [↓ wP,wQ,tf,Nat.reduceAdd,wS,reduceCtorEq]
 refine bA (fun i e=>∃ t n low o,e=⟨18,none,141,t,[],⟨n,low,o⟩,.no⟩/\t.val 0=a/\t.val 1=.int .i64 m/\t.val 5=.int .i64 (i:Nat)/\0<=n/\i<=xs.length/\(xs.any fun x=>decide (x.num=m))=((xs.drop i).any fun x=>decide (x.num=m))) (fun i=>xs.length-i) 0 ⟨_,_,_,_,rfl,by simp +decide only [↓ aC,aE,aD],by simp +decide only [↓ aC,aE,aD],by simp +decide only [↓ aC,aE,aD];rfl,by omega,Nat.zero_le _,rfl⟩ ?_
 rintro i _ ⟨t,n,low,o,rfl,t0,t1,t5,hn,hi,hq⟩
 rcases Nat.lt_or_ge i xs.length with hlt | hge
 ·obtain ⟨y,hDy,hm,hg,hd,hix,hw,hc⟩:=bO (fun x h=>tu_int.len h) hxs hl hlt
  rw [hd,List.any_cons]at hq
  have hpf:=fun {d:Option AV}=>tu_int.pf hDy (d:=d)
  obtain ⟨z,rfl⟩:=hDy
  by_cases hz:z=m
  ·rw [show (AV.int .i64 z).num=z from rfl,decide_eq_true hz,Bool.true_or]at hq
   simp +contextual +decide (maxSteps:=1000000) only [↓ wP,wQ,tf,Nat.reduceAdd,wS,reduceCtorEq,t0,t1,t5,hs.len,hs.idx,hix,hc,hpf,hz,hq]
  ·rw [show (AV.int .i64 z).num=z from rfl,decide_eq_false hz,Bool.false_or]at hq
   simp +contextual +decide (maxSteps:=1000000) only [↓ wP,wQ,tf,Nat.reduceAdd,wS,reduceCtorEq,t0,t1,t5,hs.len,hs.idx,hix,hc,hpf,hz,hw]
   exact ⟨i+1,by show _-_<_-_;omega,_,_,_,_,rfl,by simp +decide only [↓ aC,aE,aD,t0],by simp +decide only [↓ aC,aE,aD,t1],by simp +decide only [↓ aC,aE,aD],by omega,hlt,hq⟩
 ·obtain rfl:i=xs.length:=Nat.le_antisymm hi hge
  rw [List.drop_length,List.any_nil]at hq
  simp +contextual +decide (maxSteps:=1000000) only [↓ wP,wQ,tf,Nat.reduceAdd,wS,reduceCtorEq,t0,t1,t5,hs.len,bF,hq]
def kF (os:List AV):List AV->List AV->Bool
 | _,[]=>true
 | pre,x::l=>jH os x.num && !(pre.any fun y=>decide (y.num=x.num))&&kF os (pre++[x]) l
def gA (os ts:List AV):Bool:=decide ((ts.length:Int)=(cN os:Nat))&&kF os [] ts
theorem FW {xs:List AV} {x:AV} {i:Nat} (h:xs[i]?=some x):cN (xs.take (i+1))=cN (xs.take i)+(if (x.fld 0).num=6 then 1 else 0):=by
 rw [List.take_add_one,h,cN,cN,List.filter_append,List.length_append]
 by_cases h6:(x.fld 0).num=6<;>simp [h6]
theorem nK (xs:List AV) (i:Nat):cN xs=cN (xs.take i)+cN (xs.drop i):=by rw [cN,cN,cN,<-List.length_append,<-List.filter_append,List.take_append_drop]
theorem PT (xs:List AV):cN xs<=xs.length:=List.length_filter_le _ _
abbrev CO:List AV->Option AV:=rA AX fun w=>.bool (gA (w.fld 0).els (w.fld 1).els)
set_option maxHeartbeats 4000000 in
theorem rtasks_ok:Abs.Ok Tryz.prog 94 CO:=vQ fun w hw=>by
 have huw:=(eR w hw).1
 obtain ⟨os,ts,us,is,uu,rfl,ho,ht,hu,hi,hv⟩:=hw
 have c1:=(fM _ ho).2
 have c2:=(aP _ ht).2
 have c3:=(cV _ hu).2
 have c4:=(aP _ hi).2
 have c5:=(tu_int _ hv).2
 obtain ⟨xs,hs,hxs⟩:=ho
 obtain ⟨ys,hy,hys⟩:=ht
 have hl:=hs.2
 have hly:=hy.2
 have w1:=bN hs.2
 refine aH (L:=[ent 93 fK,ent 141 sS]) (elist_cons rIn6_ok.ent (elist_cons rlisted_ok.ent aG)) aO (by kernel_rfl) Tryz.func94 Tryz.ntmps94 Tryz.results94 rfl rfl (aA huw.und aF) aL ?_
 show Wk _ _ _ _ _ (fU _ _ (fun _ r=>r=.bool (gA os.els ts.els)) _)
 rw [hs.els,hy.els]
 simp +contextual +decide (maxSteps:=1000000) only [↓ wP,wQ,tf,Nat.reduceAdd,wS,reduceCtorEq,c1,c2,c3,c4,c5]
 refine bA (fun i e=>∃ t n low o,e=⟨62,none,94,t,[],⟨n,low,o⟩,.no⟩/\t.val 1=.ptr 0 0 0/\t.val 3=.int .i64 ((cN (xs.take i):Nat):Int)/\t.val 4=.int .i64 (i:Nat)/\o.get 0=some (bB 0 [os,ts,us,is,uu])/\1<=n/\i<=xs.length/\cN xs=cN (xs.take i)+cN (xs.drop i)) (fun i=>xs.length-i) 0 ⟨_,_,_,_,rfl,by simp +decide only [↓ aC,aE,aD],by simp +decide only [↓ aC,aE,aD];rfl,by simp +decide only [↓ aC,aE,aD];rfl,by simp +decide only [↓ aC,aJ,aD,ne_eq],by omega,Nat.zero_le _,nK _ _⟩ ?_
 rintro i _ ⟨t,n,low,o,rfl,t1,t3,t4,g0,hn,hi,hq⟩
 have f0:=eA (show 0<n by omega)
 rcases Nat.lt_or_ge i xs.length with hlt | hge
 ·obtain ⟨y,hDy,hm,hg,hd,hix,hw,hc⟩:=bO (fun x h=>tk_ob.len h) hxs hl hlt
  have hpf:=fun {d:Option AV}=>tk_ob.pf hDy (d:=d)
  have hT:=FW hg
  have hle:=PT (xs.take i)
  rw [List.length_take]at hle
  obtain ⟨_,_,v,g,rfl,⟨k,rfl⟩,⟨m,rfl⟩,hv',hg'⟩:=hDy
  have cv:=(aT _ hv').2
  have cg:=(fL _ hg').2
  have hw2:IntKind.i64.wrap (((cN (xs.take i):Nat):Int)+1)=((cN (xs.take i)+1:Nat):Int):=by rw [IntWalk.i64_in _ (by omega)];rfl
  by_cases k6:k=6
  ·rw [show ((AV.agg [.int .i64 k,.int .i64 m,v,g]).fld 0).num=k from rfl,if_pos k6]at hT
   simp +contextual +decide (maxSteps:=1000000) only [↓ wP,wQ,tf,Nat.reduceAdd,wS,reduceCtorEq,t1,t3,t4,g0,f0,c1,c2,c3,c4,c5,cv,cg,hs.len,hs.idx,hix,hc,hpf,k6,hw,hw2]
   exact ⟨i+1,by show _-_<_-_;omega,_,_,_,_,rfl,by simp +decide only [↓ aC,aE,aD,t1],by simp +decide only [↓ aC,aE,aD,t3,hT],by simp +decide only [↓ aC,aE,aD],by simp +decide only [↓ aC,aJ,aD,ne_eq,g0,f0,dO],by omega,hlt,nK _ _⟩
  ·rw [show ((AV.agg [.int .i64 k,.int .i64 m,v,g]).fld 0).num=k from rfl,if_neg k6]at hT
   simp only [Nat.add_zero]at hT
   simp +contextual +decide (maxSteps:=1000000) only [↓ wP,wQ,tf,Nat.reduceAdd,wS,reduceCtorEq,t1,t3,t4,g0,f0,c1,c2,c3,c4,c5,cv,cg,hs.len,hs.idx,hix,hc,hpf,k6,hw]
   exact ⟨i+1,by show _-_<_-_;omega,_,_,_,_,rfl,by simp +decide only [↓ aC,aE,aD,t1],by simp +decide only [↓ aC,aE,aD,t3,hT],by simp +decide only [↓ aC,aE,aD],by simp +decide only [↓ aC,aJ,aD,ne_eq,g0,f0,dO],by omega,hlt,nK _ _⟩
 ·obtain rfl:i=xs.length:=Nat.le_antisymm hi hge
  rw [List.take_length]at t3
  clear hq
  by_cases k1:((ys.length:Nat):Int)=((cN xs:Nat):Int)
  ·have hyl:ys.length=cN xs:=by omega
   have hspec:gA xs ys=kF xs [] ys:=by rw [gA,decide_eq_true k1,Bool.true_and]
   rw [hspec]
   simp +contextual +decide (maxSteps:=1000000) only [↓ wP,wQ,tf,Nat.reduceAdd,wS,reduceCtorEq,t1,t3,t4,g0,f0,c1,c2,c3,c4,c5,hs.len,bF,hy.len,k1]
   refine bA (fun i e=>∃ t n low o,e=⟨62,none,94,t,[],⟨n,low,o⟩,.no⟩/\t.val 1=.ptr 0 0 0/\t.val 3=.int .i64 ((cN xs:Nat):Int)/\t.val 5=.int .i64 (i:Nat)/\o.get 0=some (bB 0 [os,ts,us,is,uu])/\1<=n/\i<=ys.length/\kF xs [] ys=kF xs (ys.take i) (ys.drop i)) (fun i=>ys.length-i) 0 ⟨_,_,_,_,rfl,by simp +decide only [↓ aC,aE,aD,t1,t3,t4,g0,f0],by simp +decide only [↓ aC,aE,aD,t1,t3,t4,g0,f0],by simp +decide only [↓ aC,aE,aD,t1,t3,t4,g0,f0];rfl,by simp +decide only [↓ aC,aJ,aD,ne_eq,t1,t3,t4,g0,f0],by omega,Nat.zero_le _,rfl⟩ ?_
   rintro i _ ⟨t,n,low,o,rfl,t1,t3,t5,g0,hn,hi,hq⟩
   have f0:=eA (show 0<n by omega)
   rcases Nat.lt_or_ge i ys.length with hlt | hge
   ·obtain ⟨y,hDy,hm,hg,hd,hix,hw,hc⟩:=bO (fun x h=>tu_int.len h) hys hly hlt
    have hpf:=fun {d:Option AV}=>tu_int.pf hDy (d:=d)
    have hc':(((i:Nat):Int)<((cN xs:Nat):Int))=True:=eq_true (by omega)
    obtain ⟨b,hb,hsl⟩:=hy.upto (k:=1) (fun x hm=>tu_int.len (hys x hm)) (n:=((i:Nat):Int)) (by omega) (by omega)
    rw [Int.toNat_natCast]at hb
    have htk:ys.take (i+1)=ys.take i++[y]:=by rw [List.take_add_one,hg];rfl
    obtain ⟨z,rfl⟩:=hDy
    have hli:sS [b,.int .i64 z]=some (.bool ((ys.take i).any fun x=>decide (x.num=z))):=by
     rw [sS,sg2_eq ⟨⟨_,hb,fun x hx=>hys x (List.mem_of_mem_take hx)⟩,_,rfl⟩,hb.els];rfl
    rw [hd,kF,show (AV.int .i64 z).num=z from rfl,<-htk]at hq
    cases k2:inR z 0 ((xs.length:Int)-1) with
    | false=>
      rw [jH,k2,Bool.false_and,Bool.false_and,Bool.false_and]at hq
      simp +contextual +decide (maxSteps:=1000000) only [↓ wP,wQ,tf,Nat.reduceAdd,wS,reduceCtorEq,t1,t3,t5,g0,f0,c1,c2,c3,c4,c5,hs.len,hs.idx,hy.len,hy.idx,hix,hc',hpf,w1,aI,k2,hq]
    | true=>
      obtain ⟨o',hDo,_,ho',hix2,hpf2,_,_⟩:=kG tk_ob hxs k2
      obtain ⟨_,_,v,g,rfl,⟨k,rfl⟩,⟨m,rfl⟩,hv',hg'⟩:=hDo
      have cv:=(aT _ hv').2
      have cg:=(fL _ hg').2
      have hit:jH xs z=decide (k=6):=by rw [jH,k2,Bool.true_and,ho'];rfl
      rw [hit]at hq
      by_cases k6:k=6
      ·rw [decide_eq_true k6,Bool.true_and]at hq
       cases k3:(ys.take i).any fun x=>decide (x.num=z) with
       | true=>
         rw [k3,Bool.not_true,Bool.false_and]at hq
         simp +contextual +decide (maxSteps:=1000000) only [↓ wP,wQ,tf,Nat.reduceAdd,wS,reduceCtorEq,t1,t3,t5,g0,f0,c1,c2,c3,c4,c5,cv,cg,hs.len,hs.idx,hy.len,hy.idx,hix,hix2,hpf2,hc',hpf,w1,aI,k2,k6,hsl,hli,k3,hq]
       | false=>
         rw [k3,Bool.not_false,Bool.true_and]at hq
         simp +contextual +decide (maxSteps:=1000000) only [↓ wP,wQ,tf,Nat.reduceAdd,wS,reduceCtorEq,t1,t3,t5,g0,f0,c1,c2,c3,c4,c5,cv,cg,hs.len,hs.idx,hy.len,hy.idx,hix,hix2,hpf2,hc',hpf,w1,aI,k2,k6,hsl,hli,k3,hw]
         exact ⟨i+1,by show _-_<_-_;omega,_,_,_,_,rfl,by simp +decide only [↓ aC,aE,aD,t1],by simp +decide only [↓ aC,aE,aD,t3],by simp +decide only [↓ aC,aE,aD],by simp +decide only [↓ aC,aJ,aD,ne_eq,g0,f0,dO],by omega,hlt,hq⟩
      ·rw [decide_eq_false k6,Bool.false_and,Bool.false_and]at hq
       simp +contextual +decide (maxSteps:=1000000) only [↓ wP,wQ,tf,Nat.reduceAdd,wS,reduceCtorEq,t1,t3,t5,g0,f0,c1,c2,c3,c4,c5,cv,cg,hs.len,hs.idx,hy.len,hy.idx,hix,hix2,hpf2,hc',hpf,w1,aI,k2,k6,hq]
   ·obtain rfl:i=ys.length:=Nat.le_antisymm hi hge
    have hc':(((ys.length:Nat):Int)<((cN xs:Nat):Int))=False:=eq_false (by omega)
    rw [List.drop_length,kF]at hq
    simp +contextual +decide (maxSteps:=1000000) only [↓ wP,wQ,tf,Nat.reduceAdd,wS,reduceCtorEq,t1,t3,t5,hc',hq]
  ·simp +contextual +decide (maxSteps:=1000000) only [↓ wP,wQ,tf,Nat.reduceAdd,wS,reduceCtorEq,t1,t3,t4,g0,f0,c1,c2,c3,c4,c5,hs.len,bF,hy.len,k1]
   rw [gA,decide_eq_false k1];rfl
def KH (ns cs:List AV) (nf no:Int) (o:AV):Bool:=jF ns cs nf no (o.fld 0).num (o.fld 1).num (o.fld 2).els (o.fld 3).els
def iM (ns cs:List AV) (nf:Int) (os ts us is:List AV) (n:Int):Bool:=
 decide ((os.length:Int)<=120)&&(decide ((us.length:Int)<=100)&&(fI 50 is&&(inR n 0 1000000000&&(gA os ts&&(os.all (KH ns cs nf os.length)&&us.all uN)))))
theorem UT {a b:AV} (ha:fG a) (hb:AX b):∃ ns fs mm cs os ts us is uu,a=pg ns fs mm cs/\b=wd os ts us is uu/\RW ns fs mm cs os ts us is uu:=by
 obtain ⟨_,_,_,_,rfl,a1,a2,a3,a4⟩:=ha
 obtain ⟨_,_,_,_,_,rfl,b1,b2,b3,b4,b5⟩:=hb
 exact ⟨_,_,_,_,_,_,_,_,_,rfl,rfl,a1,a2,a3,a4,b1,b2,b3,b4,b5⟩
abbrev sT:List AV->Option AV:=rV (fun a b=>fG a/\AX b) fun a b=>.bool (iM (a.fld 0).els (a.fld 3).els (a.fld 1).els.length (b.fld 0).els (b.fld 1).els (b.fld 2).els (b.fld 3).els (b.fld 4).num)
set_option maxHeartbeats 8000000 in
theorem rWorld_ok:Abs.Ok Tryz.prog 53 sT:=ok2 fun a b ⟨ha,hb⟩=>by
 obtain ⟨ns,fs,mm,cs,os,ts,us,is,uu,rfl,rfl,h⟩:=UT ha hb
 obtain ⟨c1,c2,c3,c4,c5,c6,c7,c8,c9⟩:=h.cells
 obtain ⟨m,hm⟩:=h.uu
 have hi0:KG [is,.int .i64 50]=some (.bool (fI 50 is.els)):=sg2_eq ⟨h.is,_,rfl⟩
 have ht0:CO [wd os ts us is uu]=some (.bool (gA os.els ts.els)):=bW h.wd
 obtain ⟨xo,ho,hxo⟩:=h.os
 obtain ⟨xu,hu,hxu⟩:=h.us
 refine aH (L:=[ent 93 fK,ent 92 KG,ent 94 CO,ent 95 (aFb (pg ns fs mm cs) (wd os ts us is uu) ns.els cs.els fs.els.length os.els.length)]) (elist_cons rIn6_ok.ent (elist_cons rInts_ok.ent (elist_cons rtasks_ok.ent (elist_cons (KL h).ent aG))))
  (fun r=>(bif Nat.beq r 6 then [7] else [],[])) (by kernel_rfl) Tryz.func53 Tryz.ntmps53 Tryz.results53 rfl rfl (aA (cX _ h.pg).1.und (aA (eR _ h.wd).1.und aF)) aL ?_
 subst hm
 show Wk _ _ _ _ _ (fU _ _ (fun _ r=>r=.bool (iM ns.els cs.els fs.els.length os.els ts.els us.els is.els m)) _)
 have hsp:iM ns.els cs.els fs.els.length os.els ts.els us.els is.els m=(decide ((os.els.length:Int)<=120)&&(decide ((us.els.length:Int)<=100)&&(fI 50 is.els&&(inR m 0 1000000000&&(gA os.els ts.els&&(os.els.all (KH ns.els cs.els fs.els.length os.els.length)&&us.els.all uN)))))):=rfl
 generalize iM ns.els cs.els fs.els.length os.els ts.els us.els is.els m=W at *
 rw [ho.els,hu.els]at hsp
 have hlo:=ho.2
 have hlu:=hu.2
 by_cases k1:((xo.length:Nat):Int) > 120
 ·rw [decide_eq_false (show ¬ ((xo.length:Nat):Int)<=120 by omega),Bool.false_and]at hsp
  simp +contextual +decide (maxSteps:=1000000) only [↓ wP,wQ,tf,Nat.reduceAdd,wS,reduceCtorEq,c1,c2,c3,c4,c5,c6,c7,c8,c9,ho.len,k1,hsp]
 by_cases k2:((xu.length:Nat):Int) > 100
 ·rw [decide_eq_false (show ¬ ((xu.length:Nat):Int)<=100 by omega),Bool.false_and,Bool.and_false]at hsp
  simp +contextual +decide (maxSteps:=1000000) only [↓ wP,wQ,tf,Nat.reduceAdd,wS,reduceCtorEq,c1,c2,c3,c4,c5,c6,c7,c8,c9,ho.len,hu.len,k1,k2,hsp]
 rw [decide_eq_true (show ((xo.length:Nat):Int)<=120 by omega),Bool.true_and,decide_eq_true (show ((xu.length:Nat):Int)<=100 by omega),Bool.true_and]at hsp
 cases k3:fI 50 is.els with
 | false=>
   rw [k3,Bool.false_and]at hsp
   simp +contextual +decide (maxSteps:=1000000) only [↓ wP,wQ,tf,Nat.reduceAdd,wS,reduceCtorEq,c1,c2,c3,c4,c5,c6,c7,c8,c9,ho.len,hu.len,k1,k2,hi0,k3,hsp]
 | true=>
 rw [k3,Bool.true_and]at hsp
 cases k4:inR m 0 1000000000 with
 | false=>
   rw [k4,Bool.false_and]at hsp
   simp +contextual +decide (maxSteps:=1000000) only [↓ wP,wQ,tf,Nat.reduceAdd,wS,reduceCtorEq,c1,c2,c3,c4,c5,c6,c7,c8,c9,ho.len,hu.len,k1,k2,hi0,k3,aI,k4,hsp]
 | true=>
 rw [k4,Bool.true_and]at hsp
 cases k5:gA os.els ts.els with
 | false=>
   rw [<-ho.els,k5,Bool.false_and]at hsp
   simp +contextual +decide (maxSteps:=1000000) only [↓ wP,wQ,tf,Nat.reduceAdd,wS,reduceCtorEq,c1,c2,c3,c4,c5,c6,c7,c8,c9,ho.len,hu.len,k1,k2,hi0,k3,aI,k4,ht0,k5,hsp]
 | true=>
 rw [<-ho.els,k5,Bool.true_and,ho.els]at hsp
 simp +contextual +decide (maxSteps:=1000000) only [↓ wP,wQ,tf,Nat.reduceAdd,wS,reduceCtorEq,c1,c2,c3,c4,c5,c6,c7,c8,c9,ho.len,hu.len,k1,k2,hi0,k3,aI,k4,ht0,k5]
 refine bA (fun i e=>∃ t n low o,e=⟨75,none,53,t,[],⟨n,low,o⟩,.no⟩/\t.val 2=.ptr 0 0 0/\t.val 3=.ptr 1 0 0/\t.val 5=.int .i64 (i:Nat)/\o.get 0=some (bB 0 [ns,fs,mm,cs])/\o.get 1=some (bB 0 [os,ts,us,is,.int .i64 m])/\2<=n/\i<=xo.length/\W=((xo.drop i).all (KH ns.els cs.els fs.els.length xo.length)&&xu.all uN)) (fun i=>xo.length-i) 0 ⟨_,_,_,_,rfl,by simp +decide only [↓ aC,aE,aD],by simp +decide only [↓ aC,aE,aD],by simp +decide only [↓ aC,aE,aD];rfl,by simp +decide only [↓ aC,aJ,aD,ne_eq],by simp +decide only [↓ aC,aJ,aD,ne_eq],by omega,Nat.zero_le _,hsp⟩ ?_
 rintro i _ ⟨t,n,low,o,rfl,t2,t3,t5,g0,g1,hn,hi,hq⟩
 have f0:=eA (show 0<n by omega)
 have f1:=eA (show 1<n by omega)
 rcases Nat.lt_or_ge i xo.length with hlt | hge
 ·obtain ⟨y,hDy,hm,hg,hd,hix,hw,hc⟩:=bO (fun x h=>tk_ob.len h) hxo hlo hlt
  rw [hd,List.all_cons,Bool.and_assoc]at hq
  have hpf:=fun {d:Option AV}=>tk_ob.pf hDy (d:=d)
  have hv:aFb (pg ns fs mm cs) (wd os ts us is (.int .i64 m)) ns.els cs.els fs.els.length os.els.length [pg ns fs mm cs,wd os ts us is (.int .i64 m),y]=some (.bool (KH ns.els cs.els fs.els.length os.els.length y)):=lS ⟨rfl,rfl,hDy⟩
  rw [<-ho.els]at hq
  cases hp:KH ns.els cs.els fs.els.length os.els.length y with
  | false=>
    rw [hp,Bool.false_and]at hq
    simp +contextual +decide (maxSteps:=1000000) only [↓ wP,wQ,tf,Nat.reduceAdd,wS,reduceCtorEq,t2,t3,t5,g0,g1,f0,f1,c1,c2,c3,c4,c5,c6,c7,c8,c9,ho.len,ho.idx,hix,hc,hpf,hv,hp,hq]
  | true=>
    rw [hp,Bool.true_and]at hq
    simp +contextual +decide (maxSteps:=1000000) only [↓ wP,wQ,tf,Nat.reduceAdd,wS,reduceCtorEq,t2,t3,t5,g0,g1,f0,f1,c1,c2,c3,c4,c5,c6,c7,c8,c9,ho.len,ho.idx,hix,hc,hpf,hv,hp,hw]
    rw [ho.els]at hq
    exact ⟨i+1,by show _-_<_-_;omega,_,_,_,_,rfl,by simp +decide only [↓ aC,aE,aD,t2],by simp +decide only [↓ aC,aE,aD,t3],by simp +decide only [↓ aC,aE,aD],by simp +decide only [↓ aC,aJ,aD,ne_eq,g0,g1,f0,f1,dO],by simp +decide only [↓ aC,aJ,aD,ne_eq,g0,g1,f0,f1,dO],by omega,hlt,hq⟩
 ·obtain rfl:i=xo.length:=Nat.le_antisymm hi hge
  rw [List.drop_length,List.all_nil,Bool.true_and]at hq
  simp +contextual +decide (maxSteps:=1000000) only [↓ wP,wQ,tf,Nat.reduceAdd,wS,reduceCtorEq,t2,t3,t5,g0,g1,f0,f1,c1,c2,c3,c4,c5,c6,c7,c8,c9,ho.len,bF]
  have hq':=hq
  clear hq
  refine bA (fun i e=>∃ t n low o,e=⟨75,none,53,t,[],⟨n,low,o⟩,.no⟩/\t.val 2=.ptr 0 0 0/\t.val 3=.ptr 1 0 0/\t.val 6=.int .i64 (i:Nat)/\o.get 0=some (bB 0 [ns,fs,mm,cs])/\o.get 1=some (bB 0 [os,ts,us,is,.int .i64 m])/\2<=n/\i<=xu.length/\W=(xu.drop i).all uN) (fun i=>xu.length-i) 0 ⟨_,_,_,_,rfl,by simp +decide only [↓ aC,aE,aD,t2,t3,t5,g0,g1,f0,f1],by simp +decide only [↓ aC,aE,aD,t2,t3,t5,g0,g1,f0,f1],by simp +decide only [↓ aC,aE,aD,t2,t3,t5,g0,g1,f0,f1];rfl,by simp +decide only [↓ aC,aJ,aD,ne_eq,t2,t3,t5,g0,g1,f0,f1],by simp +decide only [↓ aC,aJ,aD,ne_eq,t2,t3,t5,g0,g1,f0,f1],by omega,Nat.zero_le _,hq'⟩ ?_
  rintro i _ ⟨t,n,low,o,rfl,t2,t3,t6,g0,g1,hn,hi,hq⟩
  have f0:=eA (show 0<n by omega)
  have f1:=eA (show 1<n by omega)
  rcases Nat.lt_or_ge i xu.length with hlt | hge
  ·obtain ⟨y,hDy,hm,hg,hd,hix,hw,hc⟩:=bO (fun x h=>tk_out.len h) hxu hlu hlt
   rw [hd,List.all_cons]at hq
   obtain ⟨_,_,rfl,⟨p,rfl⟩,⟨v,rfl⟩⟩:=hDy
   have he:uN (.agg [.int .i64 p,.int .i64 v])=(inR p 0 3&&inR v (-1000000000) 1000000000):=rfl
   rw [he]at hq
   cases k6:inR p 0 3 with
   | false=>
     rw [k6,Bool.false_and,Bool.false_and]at hq
     simp +contextual +decide (maxSteps:=1000000) only [↓ wP,wQ,tf,Nat.reduceAdd,wS,reduceCtorEq,t2,t3,t6,g0,g1,f0,f1,c1,c2,c3,c4,c5,c6,c7,c8,c9,hu.len,hu.idx,hix,hc,aI,k6,hq]
   | true=>
     cases k7:inR v (-1000000000) 1000000000 with
     | false=>
       rw [k6,k7,Bool.and_false,Bool.false_and]at hq
       simp +contextual +decide (maxSteps:=1000000) only [↓ wP,wQ,tf,Nat.reduceAdd,wS,reduceCtorEq,t2,t3,t6,g0,g1,f0,f1,c1,c2,c3,c4,c5,c6,c7,c8,c9,hu.len,hu.idx,hix,hc,aI,k6,k7,hq]
     | true=>
       rw [k6,k7,Bool.and_true,Bool.true_and]at hq
       simp +contextual +decide (maxSteps:=1000000) only [↓ wP,wQ,tf,Nat.reduceAdd,wS,reduceCtorEq,t2,t3,t6,g0,g1,f0,f1,c1,c2,c3,c4,c5,c6,c7,c8,c9,hu.len,hu.idx,hix,hc,aI,k6,k7,hw]
       exact ⟨i+1,by show _-_<_-_;omega,_,_,_,_,rfl,by simp +decide only [↓ aC,aE,aD,t2],by simp +decide only [↓ aC,aE,aD,t3],by simp +decide only [↓ aC,aE,aD],by simp +decide only [↓ aC,aJ,aD,ne_eq,g0,g1,f0,f1,dO],by simp +decide only [↓ aC,aJ,aD,ne_eq,g0,g1,f0,f1,dO],by omega,hlt,hq⟩
  ·obtain rfl:i=xu.length:=Nat.le_antisymm hi hge
   rw [List.drop_length,List.all_nil]at hq
   simp +contextual +decide (maxSteps:=1000000) only [↓ wP,wQ,tf,Nat.reduceAdd,wS,reduceCtorEq,t2,t3,t6,g0,g1,f0,f1,c1,c2,c3,c4,c5,c6,c7,c8,c9,hu.len,bF,hq]
end
end Go.Proofs.YtginbapbkjhnjaaGreat
/-
 Calls that read the store: whether something is so of all numbers of a list,by a function that reads what its maker keeps.
-/
namespace Go.Abs
noncomputable section
variable {P:Program}
theorem mI {L:List lX} (hL:∀ x∈L,cL P x) (H:cO) {f:FuncId} {fn:Func} {c:Code} {N:Nat} {rs:List ResultVar} {args:List AV} {v:AV} {s:Sto} (hok:okFn P f=true) (hf:P.funcs[f]?=some fn) (hn:fn.ntmps=N) (hr:fn.results=rs.toArray) (hb:fn.body=some c)
 (ha:Nat.ble args.length N=true) (hv:Und s.n v)
 (h:Wk P (bI L) H c ⟨N,none,f,Tr.leaf.lay 0 args,[],⟨s.n,s.n,s.o⟩,.no⟩ (fU P rs (fun S r=>s.n<=S.low/\r=v) fun _ _=>False)):bP P f args s (.ret v none):=by
 refine LC (tN hL) hok hf hb hv ?_
 rw [kN hn ha,show fn.results.toList=rs by rw [hr]]
 exact h.sound
theorem ZY {n low low':Nat} {o:Tr AObj} {x:AObj}:Sim ⟨n,low,o⟩ ⟨n+1,low',o.set n x⟩:=⟨Nat.le_succ _,fun id hid=>by
 have hid':id<n:=hid
 rw [Sto.get_mk hid',Sto.get_mk (by omega),Tr.get_set_ne _ _ (by omega)]⟩
theorem CP {s:Sto} {low:Nat}:Sim s ⟨s.n,low,s.o⟩:=⟨Nat.le_refl _,fun _ _=>rfl⟩
end
end Go.Abs
namespace Go.Proofs.YtginbapbkjhnjaaGreat
open Go.Abs Go Go.Abs.TryzF
noncomputable section
set_option maxRecDepth 10000
abbrev ZZ (g:FuncId) (cap:List AV) (D:AV->Prop) (S:Sto->Prop) (p:AV->Bool):lX:=entB g (fun args s=>(∃ x,D x/\args=x::cap)/\S s) fun args=>.bool (p (args.headD .top))
theorem NO {g:FuncId} {cap:List AV} {D:AV->Prop} {S:Sto->Prop} {p:AV->Bool} (h:∀ x,D x->∀ s,S s->bP Tryz.prog g (x::cap) s (.ret (.bool (p x)) none)):cL Tryz.prog (ZZ g cap D S p):=
 entB_ok fun args s ⟨⟨x,hx,e⟩,hs⟩=>by subst e;exact h x hx s hs
theorem AT {g:FuncId} {cap:List AV} {D:AV->Prop} {S:Sto->Prop} {p:AV->Bool} {L:List lX} {x:AV} {s:Sto} (hx:D x) (hs:S s):bI (ZZ g cap D S p::L) g (x::cap) s=some (.ret (.bool (p x)) none):=gL ⟨⟨x,hx,rfl⟩,hs⟩
variable {g:FuncId} {cap:List AV} {D:AV->Prop} {S:Sto->Prop} {p:AV->Bool}
theorem PU (hS:∀ s s',Sim s s'->S s->S s') (hD:∀ x,D x->cD x) (h:∀ x,D x->∀ s,S s->bP Tryz.prog g (x::cap) s (.ret (.bool (p x)) none)) {a:AV} (ha:TSl D a) (s:Sto) (hs0:S s):
 bP Tryz.prog 133 [a,.func (.func g) [] cap] s (.ret (.int .i64 (pG p a.els 0)) none):=by
 obtain ⟨xs,hs,hx⟩:=ha
 have hl:=hs.2
 refine mI (L:=[ZZ g cap D S p]) (elist_cons (NO h) aG) aO (by kernel_rfl) Tryz.func133 Tryz.ntmps133 Tryz.results133 rfl rfl aQ ?_
 have hS1:∀ {low:Nat},S ⟨s.n,low,s.o⟩:=hS _ _ CP hs0
 obtain ⟨n0,low0,o0⟩:=s
 have hS1:∀ {low:Nat},S ⟨n0,low,o0⟩:=hS1
 rw [hs.els]
 simp +contextual +decide (maxSteps:=1000000) only [↓ wP,wQ,tf,Nat.reduceAdd,wS,reduceCtorEq,hs.len]
 refine bA (fun i e=>∃ t,e=⟨19,none,133,t,[],⟨n0,n0,o0⟩,.no⟩/\t.val 0=a/\t.val 1=.func (.func g) [] cap/\t.val 7=.int .i64 (xs.length:Nat)/\t.val 8=.int .i64 (i:Nat)/\i<=xs.length/\pG p xs 0=pG p (xs.drop i) i) (fun i=>xs.length-i) 0 ⟨_,rfl,by simp +decide only [↓ aC,aE,aD],by simp +decide only [↓ aC,aE,aD],by simp +decide only [↓ aC,aE,aD],by simp +decide only [↓ aC,aE,aD];rfl,Nat.zero_le _,rfl⟩ ?_
 rintro i _ ⟨t,rfl,t0,t1,t7,t8,hi,hq⟩
 rcases Nat.lt_or_ge i xs.length with hlt | hge
 ·obtain ⟨x,hDx,hm,hg,hd,hix,hw,hc⟩:=bO (k:=1) (fun x h=>tu_int.len (hD x h)) hx hl hlt
  rw [hd,pG]at hq
  have hpf:=fun {d:Option AV}=>tu_int.pf (hD x hDx) (d:=d)
  have he:=fun {low:Nat}=>AT (g:=g) (cap:=cap) (p:=p) (L:=[]) hDx (hS1 (low:=low))
  cases hp:p x with
  | true=>
    rw [hp,if_pos rfl]at hq
    simp +contextual +decide (maxSteps:=1000000) only [↓ wP,wQ,tf,Nat.reduceAdd,wS,reduceCtorEq,t0,t1,t7,t8,hs.idx,hix,hc,hpf,he,hp,hq,Nat.le_refl]
  | false=>
    rw [hp,if_neg (by decide)]at hq
    simp +contextual +decide (maxSteps:=1000000) only [↓ wP,wQ,tf,Nat.reduceAdd,wS,reduceCtorEq,t0,t1,t7,t8,hs.idx,hix,hc,hpf,he,hp,hw]
    exact ⟨i+1,by show _-_<_-_;omega,_,rfl,by simp +decide only [↓ aC,aE,aD,t0],by simp +decide only [↓ aC,aE,aD,t1],by simp +decide only [↓ aC,aE,aD,t7],by simp +decide only [↓ aC,aE,aD],hlt,hq⟩
 ·obtain rfl:i=xs.length:=Nat.le_antisymm hi hge
  rw [List.drop_length,pG]at hq
  simp +contextual +decide (maxSteps:=1000000) only [↓ wP,wQ,tf,Nat.reduceAdd,wS,reduceCtorEq,t0,t1,t7,t8,bF,hq,Nat.le_refl]
theorem CQ (hS:∀ s s',Sim s s'->S s->S s') (hD:∀ x,D x->cD x) (h:∀ x,D x->∀ s,S s->bP Tryz.prog g (x::cap) s (.ret (.bool (p x)) none)) {a:AV} (ha:TSl D a) (s:Sto) (hs0:S s):
 bP Tryz.prog 78 [a,.func (.func g) [] cap] s (.ret (.bool (a.els.any p)) none):=by
 refine mI (L:=[entB 133 (fun args s=>args=[a,.func (.func g) [] cap]/\S s) fun _=>.int .i64 (pG p a.els 0)]) (elist_cons (entB_ok fun args s ⟨e,hs⟩=>by subst e;exact PU hS hD h ha s hs) aG) aO (by kernel_rfl) Tryz.func78 Tryz.ntmps78 Tryz.results78 rfl rfl aL ?_
 have hS1:∀ {low:Nat},S ⟨s.n,low,s.o⟩:=hS _ _ CP hs0
 obtain ⟨n0,low0,o0⟩:=s
 have he:=fun {low:Nat}=>gL (f:=133) (D:=fun args s=>args=[a,.func (.func g) [] cap]/\S s) (g:=fun _=>.int .i64 (pG p a.els 0)) (L:=[]) ⟨rfl,hS1 (low:=low)⟩
 simp +contextual +decide (maxSteps:=1000000) only [↓ wP,wQ,tf,Nat.reduceAdd,wS,reduceCtorEq,he,Nat.le_refl]
 rw [yG]
theorem aAa (hD:∀ x,D x->cD x) (h:∀ x,D x->∀ s,S s->bP Tryz.prog g (x::cap) s (.ret (.bool (p x)) none)) (hS:∀ s s',Sim s s'->S s->S s') (c:Nat) (x:AV) (hx:D x) (s:Sto) (hs0:S s) (hc:s.get c=some (bB 0 [.func (.func g) [] cap])):
 bP Tryz.prog 216 (x::[.ptr c 0 0]) s (.ret (.bool (!p x)) none):=by
 refine mI (L:=[ZZ g cap D S p]) (elist_cons (NO h) aG) aO (by kernel_rfl) Tryz.func216 Tryz.ntmps216 Tryz.results216 rfl rfl aL ?_
 have hS1:∀ {low:Nat},S ⟨s.n,low,s.o⟩:=hS _ _ CP hs0
 obtain ⟨n0,low0,o0⟩:=s
 have hcn:c<n0:=Sto.get_lt hc
 rw [Sto.get_mk hcn]at hc
 have f0:=eA hcn
 have he:=fun {low:Nat}=>AT (g:=g) (cap:=cap) (p:=p) (L:=[]) hx (hS1 (low:=low))
 simp +contextual +decide (maxSteps:=1000000) only [↓ wP,wQ,tf,Nat.reduceAdd,wS,reduceCtorEq,he,hc,f0,(tu_int x (hD x hx)).2,Nat.le_refl]
theorem aAb (hS:∀ s s',Sim s s'->S s->S s') (hD:∀ x,D x->cD x) (h:∀ x,D x->∀ s,S s->bP Tryz.prog g (x::cap) s (.ret (.bool (p x)) none)) {a:AV} (ha:TSl D a) (s:Sto) (hs0:S s):
 bP Tryz.prog 168 [a,.func (.func g) [] cap] s (.ret (.bool (a.els.all p)) none):=by
 have hS':∀ u u',Sim u u'->(S u/\u.get s.n=some (bB 0 [.func (.func g) [] cap]))->(S u'/\u'.get s.n=some (bB 0 [.func (.func g) [] cap])):=fun u u' hu ⟨h1,h2⟩=>⟨hS u u' hu h1,hu.get h2⟩
 have hc:=fun u (hu:S u/\u.get s.n=some (bB 0 [.func (.func g) [] cap]))=>CQ (g:=216) (cap:=[.ptr s.n 0 0]) (D:=D) (p:=fun x=>!p x) hS' hD (fun x hx u hu=>aAa hD h hS s.n x hx u hu.1 hu.2) ha u hu
 have hS1:∀ {low low':Nat},S ⟨s.n+1,low',s.o.set s.n (bB 0 [.func (.func g) [] cap])⟩:=fun {low low'}=>hS ⟨s.n,low,s.o⟩ _ ZY (hS _ _ CP hs0)
 have hcell:=ha
 obtain ⟨xs,hsl,_⟩:=hcell
 obtain ⟨n0,low0,o0⟩:=s
 refine mI (L:=[entB 78 (fun args u=>args=[a,.func (.func 216) [] [.ptr n0 0 0]]/\(S u/\u.get n0=some (bB 0 [.func (.func g) [] cap]))) fun _=>.bool (a.els.any fun x=>!p x)]) (elist_cons (entB_ok fun args u ⟨e,hu⟩=>by subst e;exact hc u hu) aG) aO (by kernel_rfl) Tryz.func168 Tryz.ntmps168 Tryz.results168 rfl rfl aL ?_
 have he:=fun {low:Nat}=>gL (f:=78) (D:=fun args u=>args=[a,.func (.func 216) [] [.ptr n0 0 0]]/\(S u/\u.get n0=some (bB 0 [.func (.func g) [] cap]))) (g:=fun _=>.bool (a.els.any fun x=>!p x)) (L:=[]) (s:=⟨n0+1,low,o0.set n0 (bB 0 [.func (.func g) [] cap])⟩) ⟨rfl,hS1 (low:=0),by rw [Sto.get_mk (by omega),Tr.get_set_same]⟩
 simp +contextual +decide (maxSteps:=1000000) only [↓ wP,wQ,tf,Nat.reduceAdd,wS,reduceCtorEq,he,hsl.cell,Nat.le_refl]
 rw [<-List.not_all_eq_any_not,Bool.not_not]
def Acc1 (u:Sto) (c:Nat) (k:Nat) (l:List AV):Prop:=∃ v,u.get c=some (bB 0 [v])/\(l=[]/\v=.nils∨l≠[]/\∃ id g,v=.sl id g 0 l.length (.room 1)/\u.get id=some (bB g l)/\k<id)
theorem Acc1.sim {l':Nat} {u u':Sto} {c k:Nat} {l:List AV} (h:SimX l' u u') (hc:c≠l') (hk:l'<=k) (ha:Acc1 u c k l):Acc1 u' c k l:=by
 obtain ⟨v,h1,h2⟩:=ha
 refine ⟨v,h.get h1 hc,?_⟩
 rcases h2 with h2 | ⟨h0,id,g,rfl,h3,h4⟩
 ·exact .inl h2
 ·exact .inr ⟨h0,id,g,rfl,h.get h3 (by omega),h4⟩
theorem Acc1.new {u:Sto} {c k id g m:Nat} {l:List AV} (h1:u.get c=some (bB 0 [.sl id g 0 m (.room 1)])) (h2:u.get id=some (bB g l)) (hm:m=l.length) (hl:l≠[]) (hk:k<id):Acc1 u c k l:=
 ⟨_,h1,.inr ⟨hl,id,g,by rw [hm],h2,hk⟩⟩
theorem Acc1.nil {u:Sto} {c k:Nat} (h1:u.get c=some (bB 0 [.nils])):Acc1 u c k []:=⟨_,h1,.inl ⟨rfl,rfl⟩⟩
def eQ (n:Nat):List AV:=(List.range n).map fun i=>.int .i64 (i:Nat)
def mJ (n:Nat):AV:=if n=0 then .nils else .fz (eQ n) false
theorem uM (n:Nat):(eQ n).length=n:=by simp [eQ]
theorem xX (n:Nat):eQ (n+1)=eQ n++[.int .i64 (n:Nat)]:=by simp [eQ,List.range_succ]
theorem qD (n:Nat):∀ x∈eQ n,cD x:=fun x hx=>by obtain ⟨i,_,rfl⟩:=List.mem_map.1 hx;exact ⟨_,rfl⟩
theorem xY {n:Nat} (h:n<=9223372036854775807):Sl (mJ n) (eQ n):=by
 unfold mJ
 split
 ·rename_i h0;subst h0;exact ⟨.inl ⟨rfl,rfl⟩,Nat.zero_le _⟩
 ·exact ⟨.inr ⟨false,rfl⟩,by rw [uM];exact h⟩
def sU (n:Nat):List (List AV):=(List.range n).map fun i=>[.int .i64 (i:Nat)]
abbrev vL (n:Nat):AV:=.func (.func 325) [] [.pf (.int .i64 (n:Nat))]
theorem AU (n:Nat):UnderE 0 (vL n):=gO (by intro x hx;cases hx) (by intro x hx;simp at hx;subst hx;exact ⟨2,rfl⟩)
theorem KI (n:Nat):Abs.Returns Tryz.prog 262 [.int .i64 (n:Nat)] (vL n):=by
 refine lG (L:=[]) aG aO (by kernel_rfl) Tryz.func262 Tryz.ntmps262 Tryz.results262 rfl rfl (aA aQ aF) ?_
 simp +contextual +decide (maxSteps:=1000000) only [↓ wP,wQ,tf,Nat.reduceAdd,wS,reduceCtorEq]
 exact nM (cs:=[.int .i64 (n:Nat)]) rfl rfl (aA aQ aF)
set_option maxHeartbeats 1000000 in
theorem CR (m:Nat) (hm:m<9223372036854775807) {O:Orc} (h62:∀ a σ,O 325 a σ=none):aIf Tryz.prog O (vL m) (sU m):=by
 intro l J D X σ hl hJs hDs hXs hJ0 hr
 have hrow:(sU m).length=m:=by simp [sU]
 refine uQ (h62 _ _) (by kernel_rfl) Tryz.func325 rfl (Wk.sound (H:=aO) ?_)
 rw [hrow]
 show Wk _ _ _ _ ⟨13,none,325,Tr.leaf.lay 0 [.func (.yield l) [] [],.pf (.int .i64 (m:Nat))],[],⟨σ.n,σ.n,σ.o⟩,.no⟩ _
 simp +contextual +decide (maxSteps:=1000000) only [↓ wP,wQ,tf,Nat.reduceAdd,wS,reduceCtorEq]
 refine bA (fun i e=>∃ t u,e=⟨13,none,325,t,[],u,.no⟩/\t.val 0=.func (.yield l) [] []/\t.val 4=.int .i64 (m:Nat)/\t.val 5=.int .i64 (i:Nat)/\i<=m/\l<u.n/\J i u/\(i=0∨u.low<=l)) (fun i=>m-i) 0
  ⟨_,_,rfl,by simp +decide only [↓ aC,aE,aD],by simp +decide only [↓ aC,aE,aD],by simp +decide only [↓ aC,aE,aD];rfl,Nat.zero_le _,hl,hJs _ _ _ (Sim.low σ σ.n) hJ0,.inl rfl⟩ ?_
 rintro i _ ⟨t,⟨n,low,o⟩,rfl,h0,h4,h5,hi,hln,hJ,hlow⟩
 by_cases hlt:i<m
 ·have d1:(((i:Nat):Int)<((m:Nat):Int))=True:=eq_true (by omega)
  have d5:IntKind.i64.wrap ((i:Int)+1)=((i+1:Nat):Int):=by rw [IntWalk.i64_in _ (by omega)];rfl
  simp +contextual +decide (maxSteps:=1000000) only [↓ wP,wQ,tf,Nat.reduceAdd,wS,reduceCtorEq,h0,h4,h5,d1]
  have hcall:=hr i [.int .i64 (i:Nat)] (by simp [sU,hlt]) ⟨n,low,o⟩ hln hJ
  refine hcall.mono fun res hk=>?_
  have hk':rK l J D X i ⟨n,low,o⟩ res:=hk
  clear hk hcall
  cases res with
  | pan v so=>
    rw [KU]
    have k:(so.getD ⟨n,low,o⟩).low<=l/\X v (so.getD ⟨n,low,o⟩):=hk'
    generalize so.getD ⟨n,low,o⟩=u at *
    simp +contextual +decide (maxSteps:=1000000) only [↓ wP,wQ,tf,Nat.reduceAdd,wS,reduceCtorEq]
    exact aFi rfl (tA _ _ _ (X v) (hXs v) k.2 (.inl (Nat.lt_of_le_of_lt k.1 hl)))
  | ret v so=>
    rw [uO]
    have k:(v=.bool true/\(so.getD ⟨n,low,o⟩).low<=l/\l<(so.getD ⟨n,low,o⟩).n/\J (i+1) (so.getD ⟨n,low,o⟩))∨(v=.bool false/\(so.getD ⟨n,low,o⟩).low<=l/\D (so.getD ⟨n,low,o⟩)):=by
     cases v with
     | bool b=>cases b with
       | true=>exact .inl ⟨rfl,hk'⟩
       | false=>exact .inr ⟨rfl,hk'⟩
     | _=>exact hk'.elim
    generalize so.getD ⟨n,low,o⟩=u at *
    rcases k with ⟨rfl,k1,k0,k2⟩ | ⟨rfl,k1,k2⟩
    ·simp +contextual +decide (maxSteps:=1000000) only [↓ wP,wQ,tf,Nat.reduceAdd,wS,reduceCtorEq,h5,d5]
     exact ⟨i+1,by show _-_<_-_;omega,_,_,rfl,by simp +decide only [↓ aC,aE,aD,h0],by simp +decide only [↓ aC,aE,aD,h4],by simp +decide only [↓ aC,aE,aD],hlt,k0,k2,.inr k1⟩
    ·simp +contextual +decide (maxSteps:=1000000) only [↓ wP,wQ,tf,Nat.reduceAdd,wS,reduceCtorEq,h5,d5]
     exact uP rfl (vs:=[]) rfl (.inr (tA _ _ _ D hDs k2 (.inl (Nat.lt_of_le_of_lt k1 hl))))
 ·have d1:(((i:Nat):Int)<((m:Nat):Int))=False:=eq_false (by omega)
  simp +contextual +decide (maxSteps:=1000000) only [↓ wP,wQ,tf,Nat.reduceAdd,wS,reduceCtorEq,h4,h5,d1]
  have hic:i=m:=by omega
  refine uP rfl (vs:=[]) rfl (.inl (tA _ _ _ (J m) (hJs _) (hic ▸ hJ) ?_))
  rcases hlow with h | h
  ·refine .inr ?_
   rw [<-hic,h];exact hJ0
  ·exact .inl (Nat.lt_of_le_of_lt h hl)
set_option maxHeartbeats 4000000 in
theorem CS (m:Nat) (hm:m<=1000):Abs.Returns Tryz.prog 324 [.nils,vL m] (mJ m):=by
 refine KP (L:=[]) aG aO (by kernel_rfl) Tryz.func324 Tryz.ntmps324 Tryz.results324 rfl rfl (aA iY (aA (AU m).und aF)) ?_
 have hrow:(sU m).length=m:=by simp [sU]
 simp +contextual +decide (maxSteps:=1000000) only [↓ wP,wQ,QH,tf,Nat.reduceAdd,ne_eq]
 refine aAu (xs:=sU m) (fun i u=>Acc1 u 0 2 (eQ i)) (fun _ _=>False) (fun _ _=>False) ?_ (fun i u u' h ha=>Acc1.sim h (by decide) (by decide) ha) (fun _ _ _ _ h=>h) (fun _ _ _ _ h=>h) (fun _ _ h=>h.elim) ⟨.nils,rfl,.inl ⟨rfl,rfl⟩⟩ ?_ ?_ (fun _ _ _ h=>h.elim) (fun _ _ _ _ h=>h.elim) (fun _ _ h=>h.elim)
 ·simp +decide only [↓ aC]
  exact CR m (by omega) fun a u=>rfl
 ·rintro i x hx ⟨n,low,o⟩ hn hg1 hg2 ⟨v,hv,hacc⟩
  have hi:i<m:=by
   have:=(List.getElem?_eq_some_iff.1 hx).1
   simpa [sU] using this
  have hx':x=[.int .i64 (i:Nat)]:=by
   simp [sU,hi]at hx;exact hx.symm
  subst hx'
  have hn':2<n:=hn
  have f0:=eA (i:=0) (n:=n) (by omega)
  have f1:=eA (i:=1) (n:=n) (by omega)
  have f2:=eA (i:=2) (n:=n) (by omega)
  simp +decide only [Sto.get_mk,f0,f1,f2,aJ,Nat.reduceAdd]at hg1 hg2 hv
  have hsmall:(2*((eQ i).length+1)+1024)*8<=281474976710656/\(eQ i).length+1<4611686018427387904:=by rw [uM];omega
  refine ⟨_,rfl,?_⟩
  rcases hacc with ⟨hl,rfl⟩ | ⟨hl,id,g,rfl,hid,hk⟩
  ·simp +contextual +decide (maxSteps:=1000000) only [↓ wP,wQ,QH,tf,Nat.reduceAdd,Nat.reduceMul,f0,f1,f2,dO,hg1,hg2,hv,DF,DE,Env.setS,ne_eq]
   rw [xX,hl]
   refine Acc1.new (id:=n+1) (g:=0) (m:=1) ?_ ?_ rfl (by simp) (by omega)
   ·exact by simp +decide only [↓ aC,aJ,aD,ne_eq,f0,f1,f2,dO]
   ·exact by simp +decide only [↓ aC,aJ,aD,ne_eq,f0,f1,f2,dO]
  ·have hidn:id<n:=Sto.get_lt hid
   rw [Sto.get_mk hidn]at hid
   have f3:=eA hidn
   have f4:id≠2/\2≠id/\id≠0/\0≠id/\id≠1/\1≠id:=⟨by omega,by omega,by omega,by omega,by omega,by omega⟩
   simp +contextual +decide (maxSteps:=1000000) only [↓ wP,wQ,QH,tf,Nat.reduceAdd,Nat.reduceMul,Nat.mul_one,Nat.zero_add,f0,f1,f2,f3,f4,dO,hg1,hg2,hv,hid,hsmall,DF,DE,Env.setS,ne_eq]
   rw [xX]
   refine Acc1.new (id:=id) (g:=g+1) (m:=(eQ i).length+1) ?_ ?_ (by simp) (by simp) hk
   ·exact by simp +decide only [↓ aC,aJ,aD,ne_eq,f0,f1,f2,f3,f4,dO]
   ·exact by simp +decide only [↓ aC,aJ,aD,ne_eq,f0,f1,f2,f3,f4,dO]
 ·rintro ⟨n,low,o⟩ hn hg1 ⟨v,hv,hacc⟩
  have hn':2<n:=hn
  have f0:=eA (i:=0) (n:=n) (by omega)
  have f1:=eA (i:=1) (n:=n) (by omega)
  have f2:=eA (i:=2) (n:=n) (by omega)
  rw [hrow]at hacc
  simp +decide only [Sto.get_mk,f0,f1,f2,aJ,Nat.reduceAdd]at hg1 hv
  simp +contextual +decide (maxSteps:=1000000) only [↓ wP,wQ,QH,tf,Nat.reduceAdd,Nat.reduceMul,f0,f1,f2,dO,hg1,hv,ne_eq]
  rcases hacc with ⟨hl,rfl⟩ | ⟨hl,id,g,rfl,hid,hk⟩
  ·have h0:m=0:=by rw [<-uM m,hl];rfl
   rw [mJ,if_pos h0]
   exact .und _ iY
  ·have h0:m≠0:=fun h=>hl (by subst h;rfl)
   rw [mJ,if_neg h0]
   have hid':=Sto.get_lt hid
   rw [Sto.get_mk hid']at hid
   refine pJ (g:=g) (cs:=eQ m) (Nat.zero_le _) ?_ rfl (by simp) (fun x hx=>(tu_int x (qD m x hx)).2) fun j x y hx hy=>?_
   ·rw [Sto.get_mk hid',Tr.get_set_ne _ _ (by omega)];exact hid
   ·rw [Nat.zero_add]at hx
    rw [hx]at hy
    cases hy
    exact .und _ (tu_int x (qD m x (List.mem_of_getElem? hx))).1.und
theorem KJ (m:Nat) (hm:m<=1000):Abs.Returns Tryz.prog 261 [vL m] (mJ m):=by
 refine aH (L:=[DJ 324 [.nils,vL m] (mJ m)]) (elist_cons (nN (CS m hm)) aG) aO (by kernel_rfl) Tryz.func261 Tryz.ntmps261 Tryz.results261 rfl rfl (aA (AU m).und aF) (yQ (xY (by omega)) fun x hx=>(tu_int x (qD m x hx)).1).und ?_
 simp +contextual +decide (maxSteps:=1000000) only [↓ wP,wQ,tf,Nat.reduceAdd,wS,reduceCtorEq,jZ]
end
end Go.Proofs.YtginbapbkjhnjaaGreat
