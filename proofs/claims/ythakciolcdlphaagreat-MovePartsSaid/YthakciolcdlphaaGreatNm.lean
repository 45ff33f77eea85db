/-
  The reference of meanings: worlds as they are defined.
-/
import Derived.Test.YthakciolcdlphaaGreatNk
set_option linter.unusedVariables false
set_option linter.unusedSimpArgs false
namespace Go.Proofs.YthakciolcdlphaaGreat
open Go.Abs Go Go.Abs.TryzF
noncomputable section
set_option maxRecDepth 10000
def iF (most:Int) (xs:List AV):Bool:=decide ((xs.length:Int)<=most)&&xs.all fun x=>nZ x.num
abbrev NK:List AV->Option AV:=wW (fun a b=>fI a/\cI b) fun a b=>.bool (iF b.num a.els)
theorem rInts_ok:Abs.Ok Tryz.prog 30 NK:=ok2 fun a b ⟨ha,hb⟩=>by
 obtain ⟨most,rfl⟩:=hb
 have hua:=(aR a ha).1
 obtain ⟨xs,hs,hxs⟩:=ha
 have hl:=hs.2
 refine aH (L:=[ent 31 eZ]) (elist_cons rIn6_ok.ent aG) aN (by kernel_rfl) Tryz.func30 Tryz.ntmps30 Tryz.results30 rfl rfl (aC hua.und (aC aT aF)) aJ ?_
 rw [hs.els,show (AV.int .i64 most).num=most from rfl]
 simp +contextual +decide (maxSteps:=1000000) only [↓ wP,wQ,tf,Nat.reduceAdd,wS,reduceCtorEq]
 refine aQ (fun i e=>∃ t n low o,e=⟨27,none,30,t,[],⟨n,low,o⟩,.no⟩/\t.val 0=a/\t.val 1=.int .i64 most/\t.val 5=.int .i64 (i:Nat)/\0<=n/\i<=xs.length/\iF most xs=(decide ((xs.length:Int)<=most)&&(xs.drop i).all fun x=>nZ x.num)) (fun i=>xs.length-i) 0 ⟨_,_,_,_,rfl,by simp +decide only [↓ aA,aE,aB],by simp +decide only [↓ aA,aE,aB],by simp +decide only [↓ aA,aE,aB];rfl,by omega,Nat.zero_le _,rfl⟩ ?_
 rintro i _ ⟨t,n,low,o,rfl,t0,t1,t5,hn,hi,hq⟩
 rcases Nat.lt_or_ge i xs.length with hlt | hge
 ·obtain ⟨y,hDy,hm,hg,hd,hix,hw,hc⟩:=bK (fun x h=>tu_int.len h) hxs hl hlt
  rw [hd,List.all_cons]at hq
  have hpf:=fun {d:Option AV}=>tu_int.pf hDy (d:=d)
  obtain ⟨z,rfl⟩:=hDy
  by_cases km:((i:Nat):Int)<=most
  ·cases hp:nZ z with
   | false=>
     rw [show (AV.int .i64 z).num=z from rfl,hp,Bool.false_and,Bool.and_false]at hq
     have hp':inR z (-1000000000) 1000000000=false:=hp
     simp +contextual +decide (maxSteps:=1000000) only [↓ wP,wQ,tf,Nat.reduceAdd,wS,reduceCtorEq,t0,t1,t5,hs.len,hs.idx,hix,hc,hpf,km,aI,hp',hq]
   | true=>
     rw [show (AV.int .i64 z).num=z from rfl,hp,Bool.true_and]at hq
     have hp':inR z (-1000000000) 1000000000=true:=hp
     simp +contextual +decide (maxSteps:=1000000) only [↓ wP,wQ,tf,Nat.reduceAdd,wS,reduceCtorEq,t0,t1,t5,hs.len,hs.idx,hix,hc,hpf,km,aI,hp',hw]
     exact ⟨i+1,by show _-_<_-_;omega,_,_,_,_,rfl,by simp +decide only [↓ aA,aE,aB,t0],by simp +decide only [↓ aA,aE,aB,t1],by simp +decide only [↓ aA,aE,aB],by omega,hlt,hq⟩
  ·have hgt:(((xs.length:Nat):Int)<=most)=False:=eq_false (by omega)
   rw [decide_eq_false (fun h=>(hgt ▸ h:False)),Bool.false_and]at hq
   simp +contextual +decide (maxSteps:=1000000) only [↓ wP,wQ,tf,Nat.reduceAdd,wS,reduceCtorEq,t0,t1,t5,hs.len,hc,km,hgt,hq]
 ·obtain rfl:i=xs.length:=Nat.le_antisymm hi hge
  rw [List.drop_length,List.all_nil,Bool.and_true]at hq
  simp +contextual +decide (maxSteps:=1000000) only [↓ wP,wQ,tf,Nat.reduceAdd,wS,reduceCtorEq,t0,t1,t5,hs.len,bG,hq]
abbrev nV:List AV->Option AV:=wW (fun a b=>fI a/\cI b) fun a b=>.bool (a.els.any fun x=>decide (x.num=b.num))
theorem rlisted_ok:Abs.Ok Tryz.prog 68 nV:=ok2 fun a b ⟨ha,hb⟩=>by
 obtain ⟨m,rfl⟩:=hb
 have hua:=(aR a ha).1
 obtain ⟨xs,hs,hxs⟩:=ha
 have hl:=hs.2
 refine aH (L:=[]) aG aN (by kernel_rfl) Tryz.func68 Tryz.ntmps68 Tryz.results68 rfl rfl (aC hua.und (aC aT aF)) aJ ?_
 rw [hs.els,show (AV.int .i64 m).num=m from rfl]
 simp +contextual +decide (maxSteps:=1000000) only [↓ wP,wQ,tf,Nat.reduceAdd,wS,reduceCtorEq]
 refine aQ (fun i e=>∃ t n low o,e=⟨18,none,68,t,[],⟨n,low,o⟩,.no⟩/\t.val 0=a/\t.val 1=.int .i64 m/\t.val 5=.int .i64 (i:Nat)/\0<=n/\i<=xs.length/\(xs.any fun x=>decide (x.num=m))=((xs.drop i).any fun x=>decide (x.num=m))) (fun i=>xs.length-i) 0 ⟨_,_,_,_,rfl,by simp +decide only [↓ aA,aE,aB],by simp +decide only [↓ aA,aE,aB],by simp +decide only [↓ aA,aE,aB];rfl,by omega,Nat.zero_le _,rfl⟩ ?_
 rintro i _ ⟨t,n,low,o,rfl,t0,t1,t5,hn,hi,hq⟩
 rcases Nat.lt_or_ge i xs.length with hlt | hge
 ·obtain ⟨y,hDy,hm,hg,hd,hix,hw,hc⟩:=bK (fun x h=>tu_int.len h) hxs hl hlt
  rw [hd,List.any_cons]at hq
  have hpf:=fun {d:Option AV}=>tu_int.pf hDy (d:=d)
  obtain ⟨z,rfl⟩:=hDy
  by_cases hz:z=m
  ·rw [show (AV.int .i64 z).num=z from rfl,decide_eq_true hz,Bool.true_or]at hq
   simp +contextual +decide (maxSteps:=1000000) only [↓ wP,wQ,tf,Nat.reduceAdd,wS,reduceCtorEq,t0,t1,t5,hs.len,hs.idx,hix,hc,hpf,hz,hq]
  ·rw [show (AV.int .i64 z).num=z from rfl,decide_eq_false hz,Bool.false_or]at hq
   simp +contextual +decide (maxSteps:=1000000) only [↓ wP,wQ,tf,Nat.reduceAdd,wS,reduceCtorEq,t0,t1,t5,hs.len,hs.idx,hix,hc,hpf,hz,hw]
   exact ⟨i+1,by show _-_<_-_;omega,_,_,_,_,rfl,by simp +decide only [↓ aA,aE,aB,t0],by simp +decide only [↓ aA,aE,aB,t1],by simp +decide only [↓ aA,aE,aB],by omega,hlt,hq⟩
 ·obtain rfl:i=xs.length:=Nat.le_antisymm hi hge
  rw [List.drop_length,List.any_nil]at hq
  simp +contextual +decide (maxSteps:=1000000) only [↓ wP,wQ,tf,Nat.reduceAdd,wS,reduceCtorEq,t0,t1,t5,hs.len,bG,hq]
def lN (os:List AV):List AV->List AV->Bool
 | _,[]=>true
 | pre,x::l=>jD os x.num && !(pre.any fun y=>decide (y.num=x.num))&&lN os (pre++[x]) l
def gJ (os ts:List AV):Bool:=decide ((ts.length:Int)=(cV os:Nat))&&lN os [] ts
theorem IY {xs:List AV} {x:AV} {i:Nat} (h:xs[i]?=some x):cV (xs.take (i+1))=cV (xs.take i)+(if (x.fld 0).num=6 then 1 else 0):=by
 rw [List.take_add_one,h,cV,cV,List.filter_append,List.length_append]
 by_cases h6:(x.fld 0).num=6<;>simp [h6]
theorem oW (xs:List AV) (i:Nat):cV xs=cV (xs.take i)+cV (xs.drop i):=by rw [cV,cV,cV,<-List.length_append,<-List.filter_append,List.take_append_drop]
theorem TW (xs:List AV):cV xs<=xs.length:=List.length_filter_le _ _
abbrev FQ:List AV->Option AV:=tB TWd fun w=>.bool (gJ (w.fld 0).els (w.fld 1).els)
set_option maxHeartbeats 4000000 in
theorem rtasks_ok:Abs.Ok Tryz.prog 32 FQ:=yR fun w hw=>by
 have huw:=(tA w hw).1
 obtain ⟨os,ts,us,is,uu,rfl,ho,ht,hu,hi,hv⟩:=hw
 have c1:=(nC _ ho).2
 have c2:=(aR _ ht).2
 have c3:=(jN _ hu).2
 have c4:=(aR _ hi).2
 have c5:=(tu_int _ hv).2
 obtain ⟨xs,hs,hxs⟩:=ho
 obtain ⟨ys,hy,hys⟩:=ht
 have hl:=hs.2
 have hly:=hy.2
 have w1:=bT hs.2
 refine aH (L:=[ent 31 eZ,ent 68 nV]) (elist_cons rIn6_ok.ent (elist_cons rlisted_ok.ent aG)) aN (by kernel_rfl) Tryz.func32 Tryz.ntmps32 Tryz.results32 rfl rfl (aC huw.und aF) aJ ?_
 show Wk _ _ _ _ _ (gQ _ _ (fun _ r=>r=.bool (gJ os.els ts.els)) _)
 rw [hs.els,hy.els]
 simp +contextual +decide (maxSteps:=1000000) only [↓ wP,wQ,tf,Nat.reduceAdd,wS,reduceCtorEq,c1,c2,c3,c4,c5]
 refine aQ (fun i e=>∃ t n low o,e=⟨62,none,32,t,[],⟨n,low,o⟩,.no⟩/\t.val 1=.ptr 0 0 0/\t.val 3=.int .i64 ((cV (xs.take i):Nat):Int)/\t.val 4=.int .i64 (i:Nat)/\o.get 0=some (aU 0 [os,ts,us,is,uu])/\1<=n/\i<=xs.length/\cV xs=cV (xs.take i)+cV (xs.drop i)) (fun i=>xs.length-i) 0 ⟨_,_,_,_,rfl,by simp +decide only [↓ aA,aE,aB],by simp +decide only [↓ aA,aE,aB];rfl,by simp +decide only [↓ aA,aE,aB];rfl,by simp +decide only [↓ aA,aL,aB,ne_eq],by omega,Nat.zero_le _,oW _ _⟩ ?_
 rintro i _ ⟨t,n,low,o,rfl,t1,t3,t4,g0,hn,hi,hq⟩
 have f0:=eY (show 0<n by omega)
 rcases Nat.lt_or_ge i xs.length with hlt | hge
 ·obtain ⟨y,hDy,hm,hg,hd,hix,hw,hc⟩:=bK (fun x h=>tk_ob.len h) hxs hl hlt
  have hpf:=fun {d:Option AV}=>tk_ob.pf hDy (d:=d)
  have hT:=IY hg
  have hle:=TW (xs.take i)
  rw [List.length_take]at hle
  obtain ⟨_,_,v,g,rfl,⟨k,rfl⟩,⟨m,rfl⟩,hv',hg'⟩:=hDy
  have cv:=(tu_vals _ hv').2
  have cg:=(fC _ hg').2
  have hw2:IntKind.i64.wrap (((cV (xs.take i):Nat):Int)+1)=((cV (xs.take i)+1:Nat):Int):=by rw [IntWalk.i64_in _ (by omega)];rfl
  by_cases k6:k=6
  ·rw [show ((AV.agg [.int .i64 k,.int .i64 m,v,g]).fld 0).num=k from rfl,if_pos k6]at hT
   simp +contextual +decide (maxSteps:=1000000) only [↓ wP,wQ,tf,Nat.reduceAdd,wS,reduceCtorEq,t1,t3,t4,g0,f0,c1,c2,c3,c4,c5,cv,cg,hs.len,hs.idx,hix,hc,hpf,k6,hw,hw2]
   exact ⟨i+1,by show _-_<_-_;omega,_,_,_,_,rfl,by simp +decide only [↓ aA,aE,aB,t1],by simp +decide only [↓ aA,aE,aB,t3,hT],by simp +decide only [↓ aA,aE,aB],by simp +decide only [↓ aA,aL,aB,ne_eq,g0,f0,cG],by omega,hlt,oW _ _⟩
  ·rw [show ((AV.agg [.int .i64 k,.int .i64 m,v,g]).fld 0).num=k from rfl,if_neg k6]at hT
   simp only [Nat.add_zero]at hT
   simp +contextual +decide (maxSteps:=1000000) only [↓ wP,wQ,tf,Nat.reduceAdd,wS,reduceCtorEq,t1,t3,t4,g0,f0,c1,c2,c3,c4,c5,cv,cg,hs.len,hs.idx,hix,hc,hpf,k6,hw]
   exact ⟨i+1,by show _-_<_-_;omega,_,_,_,_,rfl,by simp +decide only [↓ aA,aE,aB,t1],by simp +decide only [↓ aA,aE,aB,t3,hT],by simp +decide only [↓ aA,aE,aB],by simp +decide only [↓ aA,aL,aB,ne_eq,g0,f0,cG],by omega,hlt,oW _ _⟩
 ·obtain rfl:i=xs.length:=Nat.le_antisymm hi hge
  rw [List.take_length]at t3
  clear hq
  by_cases k1:((ys.length:Nat):Int)=((cV xs:Nat):Int)
  ·have hyl:ys.length=cV xs:=by omega
   have hspec:gJ xs ys=lN xs [] ys:=by rw [gJ,decide_eq_true k1,Bool.true_and]
   rw [hspec]
   simp +contextual +decide (maxSteps:=1000000) only [↓ wP,wQ,tf,Nat.reduceAdd,wS,reduceCtorEq,t1,t3,t4,g0,f0,c1,c2,c3,c4,c5,hs.len,bG,hy.len,k1]
   refine aQ (fun i e=>∃ t n low o,e=⟨62,none,32,t,[],⟨n,low,o⟩,.no⟩/\t.val 1=.ptr 0 0 0/\t.val 3=.int .i64 ((cV xs:Nat):Int)/\t.val 5=.int .i64 (i:Nat)/\o.get 0=some (aU 0 [os,ts,us,is,uu])/\1<=n/\i<=ys.length/\lN xs [] ys=lN xs (ys.take i) (ys.drop i)) (fun i=>ys.length-i) 0 ⟨_,_,_,_,rfl,by simp +decide only [↓ aA,aE,aB,t1,t3,t4,g0,f0],by simp +decide only [↓ aA,aE,aB,t1,t3,t4,g0,f0],by simp +decide only [↓ aA,aE,aB,t1,t3,t4,g0,f0];rfl,by simp +decide only [↓ aA,aL,aB,ne_eq,t1,t3,t4,g0,f0],by omega,Nat.zero_le _,rfl⟩ ?_
   rintro i _ ⟨t,n,low,o,rfl,t1,t3,t5,g0,hn,hi,hq⟩
   have f0:=eY (show 0<n by omega)
   rcases Nat.lt_or_ge i ys.length with hlt | hge
   ·obtain ⟨y,hDy,hm,hg,hd,hix,hw,hc⟩:=bK (fun x h=>tu_int.len h) hys hly hlt
    have hpf:=fun {d:Option AV}=>tu_int.pf hDy (d:=d)
    have hc':(((i:Nat):Int)<((cV xs:Nat):Int))=True:=eq_true (by omega)
    obtain ⟨b,hb,hsl⟩:=hy.upto (k:=1) (fun x hm=>tu_int.len (hys x hm)) (n:=((i:Nat):Int)) (by omega) (by omega)
    rw [Int.toNat_natCast]at hb
    have htk:ys.take (i+1)=ys.take i++[y]:=by rw [List.take_add_one,hg];rfl
    obtain ⟨z,rfl⟩:=hDy
    have hli:nV [b,.int .i64 z]=some (.bool ((ys.take i).any fun x=>decide (x.num=z))):=by
     rw [nV,sg2_eq ⟨⟨_,hb,fun x hx=>hys x (List.mem_of_mem_take hx)⟩,_,rfl⟩,hb.els];rfl
    rw [hd,lN,show (AV.int .i64 z).num=z from rfl,<-htk]at hq
    cases k2:inR z 0 ((xs.length:Int)-1) with
    | false=>
      rw [jD,k2,Bool.false_and,Bool.false_and,Bool.false_and]at hq
      simp +contextual +decide (maxSteps:=1000000) only [↓ wP,wQ,tf,Nat.reduceAdd,wS,reduceCtorEq,t1,t3,t5,g0,f0,c1,c2,c3,c4,c5,hs.len,hs.idx,hy.len,hy.idx,hix,hc',hpf,w1,aI,k2,hq]
    | true=>
      obtain ⟨o',hDo,_,ho',hix2,hpf2,_,_⟩:=lO tk_ob hxs k2
      obtain ⟨_,_,v,g,rfl,⟨k,rfl⟩,⟨m,rfl⟩,hv',hg'⟩:=hDo
      have cv:=(tu_vals _ hv').2
      have cg:=(fC _ hg').2
      have hit:jD xs z=decide (k=6):=by rw [jD,k2,Bool.true_and,ho'];rfl
      rw [hit]at hq
      by_cases k6:k=6
      ·rw [decide_eq_true k6,Bool.true_and]at hq
       cases k3:(ys.take i).any fun x=>decide (x.num=z) with
       | true=>
         rw [k3,Bool.not_true,Bool.false_and]at hq
         simp +contextual +decide (maxSteps:=1000000) only [↓ wP,wQ,tf,Nat.reduceAdd,wS,reduceCtorEq,t1,t3,t5,g0,f0,c1,c2,c3,c4,c5,cv,cg,hs.len,hs.idx,hy.len,hy.idx,hix,hix2,hpf2,hc',hpf,w1,aI,k2,k6,hsl,hli,k3,hq]
       | false=>
         rw [k3,Bool.not_false,Bool.true_and]at hq
         simp +contextual +decide (maxSteps:=1000000) only [↓ wP,wQ,tf,Nat.reduceAdd,wS,reduceCtorEq,t1,t3,t5,g0,f0,c1,c2,c3,c4,c5,cv,cg,hs.len,hs.idx,hy.len,hy.idx,hix,hix2,hpf2,hc',hpf,w1,aI,k2,k6,hsl,hli,k3,hw]
         exact ⟨i+1,by show _-_<_-_;omega,_,_,_,_,rfl,by simp +decide only [↓ aA,aE,aB,t1],by simp +decide only [↓ aA,aE,aB,t3],by simp +decide only [↓ aA,aE,aB],by simp +decide only [↓ aA,aL,aB,ne_eq,g0,f0,cG],by omega,hlt,hq⟩
      ·rw [decide_eq_false k6,Bool.false_and,Bool.false_and]at hq
       simp +contextual +decide (maxSteps:=1000000) only [↓ wP,wQ,tf,Nat.reduceAdd,wS,reduceCtorEq,t1,t3,t5,g0,f0,c1,c2,c3,c4,c5,cv,cg,hs.len,hs.idx,hy.len,hy.idx,hix,hix2,hpf2,hc',hpf,w1,aI,k2,k6,hq]
   ·obtain rfl:i=ys.length:=Nat.le_antisymm hi hge
    have hc':(((ys.length:Nat):Int)<((cV xs:Nat):Int))=False:=eq_false (by omega)
    rw [List.drop_length,lN]at hq
    simp +contextual +decide (maxSteps:=1000000) only [↓ wP,wQ,tf,Nat.reduceAdd,wS,reduceCtorEq,t1,t3,t5,hc',hq]
  ·simp +contextual +decide (maxSteps:=1000000) only [↓ wP,wQ,tf,Nat.reduceAdd,wS,reduceCtorEq,t1,t3,t4,g0,f0,c1,c2,c3,c4,c5,hs.len,bG,hy.len,k1]
   rw [gJ,decide_eq_false k1];rfl
def NL (ns cs:List AV) (nf no:Int) (o:AV):Bool:=kK ns cs nf no (o.fld 0).num (o.fld 1).num (o.fld 2).els (o.fld 3).els
def mI (ns cs:List AV) (nf:Int) (os ts us is:List AV) (n:Int):Bool:=
 decide ((os.length:Int)<=120)&&(decide ((us.length:Int)<=100)&&(iF 50 is&&(inR n 0 1000000000&&(gJ os ts&&(os.all (NL ns cs nf os.length)&&us.all wV)))))
theorem YZ {a b:AV} (ha:gY a) (hb:TWd b):∃ ns fs mm cs os ts us is uu,a=pg ns fs mm cs/\b=wd os ts us is uu/\RW ns fs mm cs os ts us is uu:=by
 obtain ⟨_,_,_,_,rfl,a1,a2,a3,a4⟩:=ha
 obtain ⟨_,_,_,_,_,rfl,b1,b2,b3,b4,b5⟩:=hb
 exact ⟨_,_,_,_,_,_,_,_,_,rfl,rfl,a1,a2,a3,a4,b1,b2,b3,b4,b5⟩
abbrev zB:List AV->Option AV:=wW (fun a b=>gY a/\TWd b) fun a b=>.bool (mI (a.fld 0).els (a.fld 3).els (a.fld 1).els.length (b.fld 0).els (b.fld 1).els (b.fld 2).els (b.fld 3).els (b.fld 4).num)
set_option maxHeartbeats 8000000 in
theorem rWorld_ok:Abs.Ok Tryz.prog 8 zB:=ok2 fun a b ⟨ha,hb⟩=>by
 obtain ⟨ns,fs,mm,cs,os,ts,us,is,uu,rfl,rfl,h⟩:=YZ ha hb
 obtain ⟨c1,c2,c3,c4,c5,c6,c7,c8,c9⟩:=h.cells
 obtain ⟨m,hm⟩:=h.uu
 have hi0:NK [is,.int .i64 50]=some (.bool (iF 50 is.els)):=sg2_eq ⟨h.is,_,rfl⟩
 have ht0:FQ [wd os ts us is uu]=some (.bool (gJ os.els ts.els)):=cR h.wd
 obtain ⟨xo,ho,hxo⟩:=h.os
 obtain ⟨xu,hu,hxu⟩:=h.us
 refine aH (L:=[ent 31 eZ,ent 30 NK,ent 32 FQ,ent 33 (aJl (pg ns fs mm cs) (wd os ts us is uu) ns.els cs.els fs.els.length os.els.length)]) (elist_cons rIn6_ok.ent (elist_cons rInts_ok.ent (elist_cons rtasks_ok.ent (elist_cons (NP h).ent aG))))
  (fun r=>(bif Nat.beq r 6 then [7] else [],[])) (by kernel_rfl) Tryz.func8 Tryz.ntmps8 Tryz.results8 rfl rfl (aC (dG _ h.pg).1.und (aC (tA _ h.wd).1.und aF)) aJ ?_
 subst hm
 show Wk _ _ _ _ _ (gQ _ _ (fun _ r=>r=.bool (mI ns.els cs.els fs.els.length os.els ts.els us.els is.els m)) _)
 have hsp:mI ns.els cs.els fs.els.length os.els ts.els us.els is.els m=(decide ((os.els.length:Int)<=120)&&(decide ((us.els.length:Int)<=100)&&(iF 50 is.els&&(inR m 0 1000000000&&(gJ os.els ts.els&&(os.els.all (NL ns.els cs.els fs.els.length os.els.length)&&us.els.all wV)))))):=rfl
 generalize mI ns.els cs.els fs.els.length os.els ts.els us.els is.els m=W at *
 rw [ho.els,hu.els]at hsp
 have hlo:=ho.2
 have hlu:=hu.2
 by_cases k1:((xo.length:Nat):Int) > 120
 ·rw [decide_eq_false (show ¬ ((xo.length:Nat):Int)<=120 by omega),Bool.false_and]at hsp
  simp +contextual +decide (maxSteps:=1000000) only [↓ wP,wQ,tf,Nat.reduceAdd,wS,reduceCtorEq,c1,c2,c3,c4,c5,c6,c7,c8,c9,ho.len,k1,hsp]
 by_cases k2:((xu.length:Nat):Int) > 100
 ·rw [decide_eq_false (show ¬ ((xu.length:Nat):Int)<=100 by omega),Bool.false_and,Bool.and_false]at hsp
  simp +contextual +decide (maxSteps:=1000000) only [↓ wP,wQ,tf,Nat.reduceAdd,wS,reduceCtorEq,c1,c2,c3,c4,c5,c6,c7,c8,c9,ho.len,hu.len,k1,k2,hsp]
 rw [decide_eq_true (show ((xo.length:Nat):Int)<=120 by omega),Bool.true_and,decide_eq_true (show ((xu.length:Nat):Int)<=100 by omega),Bool.true_and]at hsp
 cases k3:iF 50 is.els with
 | false=>
   rw [k3,Bool.false_and]at hsp
   simp +contextual +decide (maxSteps:=1000000) only [↓ wP,wQ,tf,Nat.reduceAdd,wS,reduceCtorEq,c1,c2,c3,c4,c5,c6,c7,c8,c9,ho.len,hu.len,k1,k2,hi0,k3,hsp]
 | true=>
 rw [k3,Bool.true_and]at hsp
 cases k4:inR m 0 1000000000 with
 | false=>
   rw [k4,Bool.false_and]at hsp
   simp +contextual +decide (maxSteps:=1000000) only [↓ wP,wQ,tf,Nat.reduceAdd,wS,reduceCtorEq,c1,c2,c3,c4,c5,c6,c7,c8,c9,ho.len,hu.len,k1,k2,hi0,k3,aI,k4,hsp]
 | true=>
 rw [k4,Bool.true_and]at hsp
 cases k5:gJ os.els ts.els with
 | false=>
   rw [<-ho.els,k5,Bool.false_and]at hsp
   simp +contextual +decide (maxSteps:=1000000) only [↓ wP,wQ,tf,Nat.reduceAdd,wS,reduceCtorEq,c1,c2,c3,c4,c5,c6,c7,c8,c9,ho.len,hu.len,k1,k2,hi0,k3,aI,k4,ht0,k5,hsp]
 | true=>
 rw [<-ho.els,k5,Bool.true_and,ho.els]at hsp
 simp +contextual +decide (maxSteps:=1000000) only [↓ wP,wQ,tf,Nat.reduceAdd,wS,reduceCtorEq,c1,c2,c3,c4,c5,c6,c7,c8,c9,ho.len,hu.len,k1,k2,hi0,k3,aI,k4,ht0,k5]
 refine aQ (fun i e=>∃ t n low o,e=⟨75,none,8,t,[],⟨n,low,o⟩,.no⟩/\t.val 2=.ptr 0 0 0/\t.val 3=.ptr 1 0 0/\t.val 5=.int .i64 (i:Nat)/\o.get 0=some (aU 0 [ns,fs,mm,cs])/\o.get 1=some (aU 0 [os,ts,us,is,.int .i64 m])/\2<=n/\i<=xo.length/\W=((xo.drop i).all (NL ns.els cs.els fs.els.length xo.length)&&xu.all wV)) (fun i=>xo.length-i) 0 ⟨_,_,_,_,rfl,by simp +decide only [↓ aA,aE,aB],by simp +decide only [↓ aA,aE,aB],by simp +decide only [↓ aA,aE,aB];rfl,by simp +decide only [↓ aA,aL,aB,ne_eq],by simp +decide only [↓ aA,aL,aB,ne_eq],by omega,Nat.zero_le _,hsp⟩ ?_
 rintro i _ ⟨t,n,low,o,rfl,t2,t3,t5,g0,g1,hn,hi,hq⟩
 have f0:=eY (show 0<n by omega)
 have f1:=eY (show 1<n by omega)
 rcases Nat.lt_or_ge i xo.length with hlt | hge
 ·obtain ⟨y,hDy,hm,hg,hd,hix,hw,hc⟩:=bK (fun x h=>tk_ob.len h) hxo hlo hlt
  rw [hd,List.all_cons,Bool.and_assoc]at hq
  have hpf:=fun {d:Option AV}=>tk_ob.pf hDy (d:=d)
  have hv:aJl (pg ns fs mm cs) (wd os ts us is (.int .i64 m)) ns.els cs.els fs.els.length os.els.length [pg ns fs mm cs,wd os ts us is (.int .i64 m),y]=some (.bool (NL ns.els cs.els fs.els.length os.els.length y)):=oZ ⟨rfl,rfl,hDy⟩
  rw [<-ho.els]at hq
  cases hp:NL ns.els cs.els fs.els.length os.els.length y with
  | false=>
    rw [hp,Bool.false_and]at hq
    simp +contextual +decide (maxSteps:=1000000) only [↓ wP,wQ,tf,Nat.reduceAdd,wS,reduceCtorEq,t2,t3,t5,g0,g1,f0,f1,c1,c2,c3,c4,c5,c6,c7,c8,c9,ho.len,ho.idx,hix,hc,hpf,hv,hp,hq]
  | true=>
    rw [hp,Bool.true_and]at hq
    simp +contextual +decide (maxSteps:=1000000) only [↓ wP,wQ,tf,Nat.reduceAdd,wS,reduceCtorEq,t2,t3,t5,g0,g1,f0,f1,c1,c2,c3,c4,c5,c6,c7,c8,c9,ho.len,ho.idx,hix,hc,hpf,hv,hp,hw]
    rw [ho.els]at hq
    exact ⟨i+1,by show _-_<_-_;omega,_,_,_,_,rfl,by simp +decide only [↓ aA,aE,aB,t2],by simp +decide only [↓ aA,aE,aB,t3],by simp +decide only [↓ aA,aE,aB],by simp +decide only [↓ aA,aL,aB,ne_eq,g0,g1,f0,f1,cG],by simp +decide only [↓ aA,aL,aB,ne_eq,g0,g1,f0,f1,cG],by omega,hlt,hq⟩
 ·obtain rfl:i=xo.length:=Nat.le_antisymm hi hge
  rw [List.drop_length,List.all_nil,Bool.true_and]at hq
  simp +contextual +decide (maxSteps:=1000000) only [↓ wP,wQ,tf,Nat.reduceAdd,wS,reduceCtorEq,t2,t3,t5,g0,g1,f0,f1,c1,c2,c3,c4,c5,c6,c7,c8,c9,ho.len,bG]
  have hq':=hq
  clear hq
  refine aQ (fun i e=>∃ t n low o,e=⟨75,none,8,t,[],⟨n,low,o⟩,.no⟩/\t.val 2=.ptr 0 0 0/\t.val 3=.ptr 1 0 0/\t.val 6=.int .i64 (i:Nat)/\o.get 0=some (aU 0 [ns,fs,mm,cs])/\o.get 1=some (aU 0 [os,ts,us,is,.int .i64 m])/\2<=n/\i<=xu.length/\W=(xu.drop i).all wV) (fun i=>xu.length-i) 0 ⟨_,_,_,_,rfl,by simp +decide only [↓ aA,aE,aB,t2,t3,t5,g0,g1,f0,f1],by simp +decide only [↓ aA,aE,aB,t2,t3,t5,g0,g1,f0,f1],by simp +decide only [↓ aA,aE,aB,t2,t3,t5,g0,g1,f0,f1];rfl,by simp +decide only [↓ aA,aL,aB,ne_eq,t2,t3,t5,g0,g1,f0,f1],by simp +decide only [↓ aA,aL,aB,ne_eq,t2,t3,t5,g0,g1,f0,f1],by omega,Nat.zero_le _,hq'⟩ ?_
  rintro i _ ⟨t,n,low,o,rfl,t2,t3,t6,g0,g1,hn,hi,hq⟩
  have f0:=eY (show 0<n by omega)
  have f1:=eY (show 1<n by omega)
  rcases Nat.lt_or_ge i xu.length with hlt | hge
  ·obtain ⟨y,hDy,hm,hg,hd,hix,hw,hc⟩:=bK (fun x h=>tk_out.len h) hxu hlu hlt
   rw [hd,List.all_cons]at hq
   obtain ⟨_,_,rfl,⟨p,rfl⟩,⟨v,rfl⟩⟩:=hDy
   have he:wV (.agg [.int .i64 p,.int .i64 v])=(inR p 0 3&&inR v (-1000000000) 1000000000):=rfl
   rw [he]at hq
   cases k6:inR p 0 3 with
   | false=>
     rw [k6,Bool.false_and,Bool.false_and]at hq
     simp +contextual +decide (maxSteps:=1000000) only [↓ wP,wQ,tf,Nat.reduceAdd,wS,reduceCtorEq,t2,t3,t6,g0,g1,f0,f1,c1,c2,c3,c4,c5,c6,c7,c8,c9,hu.len,hu.idx,hix,hc,aI,k6,hq]
   | true=>
     cases k7:inR v (-1000000000) 1000000000 with
     | false=>
       rw [k6,k7,Bool.and_false,Bool.false_and]at hq
       simp +contextual +decide (maxSteps:=1000000) only [↓ wP,wQ,tf,Nat.reduceAdd,wS,reduceCtorEq,t2,t3,t6,g0,g1,f0,f1,c1,c2,c3,c4,c5,c6,c7,c8,c9,hu.len,hu.idx,hix,hc,aI,k6,k7,hq]
     | true=>
       rw [k6,k7,Bool.and_true,Bool.true_and]at hq
       simp +contextual +decide (maxSteps:=1000000) only [↓ wP,wQ,tf,Nat.reduceAdd,wS,reduceCtorEq,t2,t3,t6,g0,g1,f0,f1,c1,c2,c3,c4,c5,c6,c7,c8,c9,hu.len,hu.idx,hix,hc,aI,k6,k7,hw]
       exact ⟨i+1,by show _-_<_-_;omega,_,_,_,_,rfl,by simp +decide only [↓ aA,aE,aB,t2],by simp +decide only [↓ aA,aE,aB,t3],by simp +decide only [↓ aA,aE,aB],by simp +decide only [↓ aA,aL,aB,ne_eq,g0,g1,f0,f1,cG],by simp +decide only [↓ aA,aL,aB,ne_eq,g0,g1,f0,f1,cG],by omega,hlt,hq⟩
  ·obtain rfl:i=xu.length:=Nat.le_antisymm hi hge
   rw [List.drop_length,List.all_nil]at hq
   simp +contextual +decide (maxSteps:=1000000) only [↓ wP,wQ,tf,Nat.reduceAdd,wS,reduceCtorEq,t2,t3,t6,g0,g1,f0,f1,c1,c2,c3,c4,c5,c6,c7,c8,c9,hu.len,bG,hq]
end
end Go.Proofs.YthakciolcdlphaaGreat
/-
 Calls that read the store: whether something is so of all numbers of a list,by a function that reads what its maker keeps.
-/
namespace Go.Abs
noncomputable section
variable {P:Program}
theorem nW {L:List kL} (hL:∀ x∈L,bS P x) (H:cJ) {f:FuncId} {fn:Func} {c:Code} {N:Nat} {rs:List ResultVar} {args:List AV} {v:AV} {s:Sto} (hok:okFn P f=true) (hf:P.funcs[f]?=some fn) (hn:fn.ntmps=N) (hr:fn.results=rs.toArray) (hb:fn.body=some c)
 (ha:Nat.ble args.length N=true) (hv:Und s.n v)
 (h:Wk P (orcL L) H c ⟨N,none,f,Tr.leaf.lay 0 args,[],⟨s.n,s.n,s.o⟩,.no⟩ (gQ P rs (fun S r=>s.n<=S.low/\r=v) fun _ _=>False)):bH P f args s (.ret v none):=by
 refine OI (kY hL) hok hf hb hv ?_
 rw [fN hn ha,show fn.results.toList=rs by rw [hr]]
 exact h.sound
theorem aEt {n low low':Nat} {o:Tr AObj} {x:AObj}:Sim ⟨n,low,o⟩ ⟨n+1,low',o.set n x⟩:=⟨Nat.le_succ _,fun id hid=>by
 have hid':id<n:=hid
 rw [Sto.get_mk hid',Sto.get_mk (by omega),Tr.get_set_ne _ _ (by omega)]⟩
theorem FR {s:Sto} {low:Nat}:Sim s ⟨s.n,low,s.o⟩:=⟨Nat.le_refl _,fun _ _=>rfl⟩
end
end Go.Abs
namespace Go.Proofs.YthakciolcdlphaaGreat
open Go.Abs Go Go.Abs.TryzF
noncomputable section
set_option maxRecDepth 10000
abbrev aEu (g:FuncId) (cap:List AV) (D:AV->Prop) (S:Sto->Prop) (p:AV->Bool):kL:=entB g (fun args s=>(∃ x,D x/\args=x::cap)/\S s) fun args=>.bool (p (args.headD .top))
theorem QR {g:FuncId} {cap:List AV} {D:AV->Prop} {S:Sto->Prop} {p:AV->Bool} (h:∀ x,D x->∀ s,S s->bH Tryz.prog g (x::cap) s (.ret (.bool (p x)) none)):bS Tryz.prog (aEu g cap D S p):=
 entB_ok fun args s ⟨⟨x,hx,e⟩,hs⟩=>by subst e;exact h x hx s hs
theorem DQ {g:FuncId} {cap:List AV} {D:AV->Prop} {S:Sto->Prop} {p:AV->Bool} {L:List kL} {x:AV} {s:Sto} (hx:D x) (hs:S s):orcL (aEu g cap D S p::L) g (x::cap) s=some (.ret (.bool (p x)) none):=gZ ⟨⟨x,hx,rfl⟩,hs⟩
variable {g:FuncId} {cap:List AV} {D:AV->Prop} {S:Sto->Prop} {p:AV->Bool}
theorem TX (hS:∀ s s',Sim s s'->S s->S s') (hD:∀ x,D x->cI x) (h:∀ x,D x->∀ s,S s->bH Tryz.prog g (x::cap) s (.ret (.bool (p x)) none)) {a:AV} (ha:TSl D a) (s:Sto) (hs0:S s):
 bH Tryz.prog 102 [a,.func (.func g) [] cap] s (.ret (.int .i64 (qX p a.els 0)) none):=by
 obtain ⟨xs,hs,hx⟩:=ha
 have hl:=hs.2
 refine nW (L:=[aEu g cap D S p]) (elist_cons (QR h) aG) aN (by kernel_rfl) Tryz.func102 Tryz.ntmps102 Tryz.results102 rfl rfl aT ?_
 have hS1:∀ {low:Nat},S ⟨s.n,low,s.o⟩:=hS _ _ FR hs0
 obtain ⟨n0,low0,o0⟩:=s
 have hS1:∀ {low:Nat},S ⟨n0,low,o0⟩:=hS1
 rw [hs.els]
 simp +contextual +decide (maxSteps:=1000000) only [↓ wP,wQ,tf,Nat.reduceAdd,wS,reduceCtorEq,hs.len]
 refine aQ (fun i e=>∃ t,e=⟨19,none,102,t,[],⟨n0,n0,o0⟩,.no⟩/\t.val 0=a/\t.val 1=.func (.func g) [] cap/\t.val 7=.int .i64 (xs.length:Nat)/\t.val 8=.int .i64 (i:Nat)/\i<=xs.length/\qX p xs 0=qX p (xs.drop i) i) (fun i=>xs.length-i) 0 ⟨_,rfl,by simp +decide only [↓ aA,aE,aB],by simp +decide only [↓ aA,aE,aB],by simp +decide only [↓ aA,aE,aB],by simp +decide only [↓ aA,aE,aB];rfl,Nat.zero_le _,rfl⟩ ?_
 rintro i _ ⟨t,rfl,t0,t1,t7,t8,hi,hq⟩
 rcases Nat.lt_or_ge i xs.length with hlt | hge
 ·obtain ⟨x,hDx,hm,hg,hd,hix,hw,hc⟩:=bK (k:=1) (fun x h=>tu_int.len (hD x h)) hx hl hlt
  rw [hd,qX]at hq
  have hpf:=fun {d:Option AV}=>tu_int.pf (hD x hDx) (d:=d)
  have he:=fun {low:Nat}=>DQ (g:=g) (cap:=cap) (p:=p) (L:=[]) hDx (hS1 (low:=low))
  cases hp:p x with
  | true=>
    rw [hp,if_pos rfl]at hq
    simp +contextual +decide (maxSteps:=1000000) only [↓ wP,wQ,tf,Nat.reduceAdd,wS,reduceCtorEq,t0,t1,t7,t8,hs.idx,hix,hc,hpf,he,hp,hq,Nat.le_refl]
  | false=>
    rw [hp,if_neg (by decide)]at hq
    simp +contextual +decide (maxSteps:=1000000) only [↓ wP,wQ,tf,Nat.reduceAdd,wS,reduceCtorEq,t0,t1,t7,t8,hs.idx,hix,hc,hpf,he,hp,hw]
    exact ⟨i+1,by show _-_<_-_;omega,_,rfl,by simp +decide only [↓ aA,aE,aB,t0],by simp +decide only [↓ aA,aE,aB,t1],by simp +decide only [↓ aA,aE,aB,t7],by simp +decide only [↓ aA,aE,aB],hlt,hq⟩
 ·obtain rfl:i=xs.length:=Nat.le_antisymm hi hge
  rw [List.drop_length,qX]at hq
  simp +contextual +decide (maxSteps:=1000000) only [↓ wP,wQ,tf,Nat.reduceAdd,wS,reduceCtorEq,t0,t1,t7,t8,bG,hq,Nat.le_refl]
theorem FS (hS:∀ s s',Sim s s'->S s->S s') (hD:∀ x,D x->cI x) (h:∀ x,D x->∀ s,S s->bH Tryz.prog g (x::cap) s (.ret (.bool (p x)) none)) {a:AV} (ha:TSl D a) (s:Sto) (hs0:S s):
 bH Tryz.prog 47 [a,.func (.func g) [] cap] s (.ret (.bool (a.els.any p)) none):=by
 refine nW (L:=[entB 102 (fun args s=>args=[a,.func (.func g) [] cap]/\S s) fun _=>.int .i64 (qX p a.els 0)]) (elist_cons (entB_ok fun args s ⟨e,hs⟩=>by subst e;exact TX hS hD h ha s hs) aG) aN (by kernel_rfl) Tryz.func47 Tryz.ntmps47 Tryz.results47 rfl rfl aJ ?_
 have hS1:∀ {low:Nat},S ⟨s.n,low,s.o⟩:=hS _ _ FR hs0
 obtain ⟨n0,low0,o0⟩:=s
 have he:=fun {low:Nat}=>gZ (f:=102) (D:=fun args s=>args=[a,.func (.func g) [] cap]/\S s) (g:=fun _=>.int .i64 (qX p a.els 0)) (L:=[]) ⟨rfl,hS1 (low:=low)⟩
 simp +contextual +decide (maxSteps:=1000000) only [↓ wP,wQ,tf,Nat.reduceAdd,wS,reduceCtorEq,he,Nat.le_refl]
 rw [BA]
theorem aEv (hD:∀ x,D x->cI x) (h:∀ x,D x->∀ s,S s->bH Tryz.prog g (x::cap) s (.ret (.bool (p x)) none)) (hS:∀ s s',Sim s s'->S s->S s') (c:Nat) (x:AV) (hx:D x) (s:Sto) (hs0:S s) (hc:s.get c=some (aU 0 [.func (.func g) [] cap])):
 bH Tryz.prog 318 (x::[.ptr c 0 0]) s (.ret (.bool (!p x)) none):=by
 refine nW (L:=[aEu g cap D S p]) (elist_cons (QR h) aG) aN (by kernel_rfl) Tryz.func318 Tryz.ntmps318 Tryz.results318 rfl rfl aJ ?_
 have hS1:∀ {low:Nat},S ⟨s.n,low,s.o⟩:=hS _ _ FR hs0
 obtain ⟨n0,low0,o0⟩:=s
 have hcn:c<n0:=Sto.get_lt hc
 rw [Sto.get_mk hcn]at hc
 have f0:=eY hcn
 have he:=fun {low:Nat}=>DQ (g:=g) (cap:=cap) (p:=p) (L:=[]) hx (hS1 (low:=low))
 simp +contextual +decide (maxSteps:=1000000) only [↓ wP,wQ,tf,Nat.reduceAdd,wS,reduceCtorEq,he,hc,f0,(tu_int x (hD x hx)).2,Nat.le_refl]
theorem aEw (hS:∀ s s',Sim s s'->S s->S s') (hD:∀ x,D x->cI x) (h:∀ x,D x->∀ s,S s->bH Tryz.prog g (x::cap) s (.ret (.bool (p x)) none)) {a:AV} (ha:TSl D a) (s:Sto) (hs0:S s):
 bH Tryz.prog 234 [a,.func (.func g) [] cap] s (.ret (.bool (a.els.all p)) none):=by
 have hS':∀ u u',Sim u u'->(S u/\u.get s.n=some (aU 0 [.func (.func g) [] cap]))->(S u'/\u'.get s.n=some (aU 0 [.func (.func g) [] cap])):=fun u u' hu ⟨h1,h2⟩=>⟨hS u u' hu h1,hu.get h2⟩
 have hc:=fun u (hu:S u/\u.get s.n=some (aU 0 [.func (.func g) [] cap]))=>FS (g:=318) (cap:=[.ptr s.n 0 0]) (D:=D) (p:=fun x=>!p x) hS' hD (fun x hx u hu=>aEv hD h hS s.n x hx u hu.1 hu.2) ha u hu
 have hS1:∀ {low low':Nat},S ⟨s.n+1,low',s.o.set s.n (aU 0 [.func (.func g) [] cap])⟩:=fun {low low'}=>hS ⟨s.n,low,s.o⟩ _ aEt (hS _ _ FR hs0)
 have hcell:=ha
 obtain ⟨xs,hsl,_⟩:=hcell
 obtain ⟨n0,low0,o0⟩:=s
 refine nW (L:=[entB 47 (fun args u=>args=[a,.func (.func 318) [] [.ptr n0 0 0]]/\(S u/\u.get n0=some (aU 0 [.func (.func g) [] cap]))) fun _=>.bool (a.els.any fun x=>!p x)]) (elist_cons (entB_ok fun args u ⟨e,hu⟩=>by subst e;exact hc u hu) aG) aN (by kernel_rfl) Tryz.func234 Tryz.ntmps234 Tryz.results234 rfl rfl aJ ?_
 have he:=fun {low:Nat}=>gZ (f:=47) (D:=fun args u=>args=[a,.func (.func 318) [] [.ptr n0 0 0]]/\(S u/\u.get n0=some (aU 0 [.func (.func g) [] cap]))) (g:=fun _=>.bool (a.els.any fun x=>!p x)) (L:=[]) (s:=⟨n0+1,low,o0.set n0 (aU 0 [.func (.func g) [] cap])⟩) ⟨rfl,hS1 (low:=0),by rw [Sto.get_mk (by omega),Tr.get_set_same]⟩
 simp +contextual +decide (maxSteps:=1000000) only [↓ wP,wQ,tf,Nat.reduceAdd,wS,reduceCtorEq,he,hsl.cell,Nat.le_refl]
 rw [<-List.not_all_eq_any_not,Bool.not_not]
def Acc1 (u:Sto) (c:Nat) (k:Nat) (l:List AV):Prop:=∃ v,u.get c=some (aU 0 [v])/\(l=[]/\v=.nils∨l≠[]/\∃ id g,v=.sl id g 0 l.length (.room 1)/\u.get id=some (aU g l)/\k<id)
theorem Acc1.sim {l':Nat} {u u':Sto} {c k:Nat} {l:List AV} (h:SimX l' u u') (hc:c≠l') (hk:l'<=k) (ha:Acc1 u c k l):Acc1 u' c k l:=by
 obtain ⟨v,h1,h2⟩:=ha
 refine ⟨v,h.get h1 hc,?_⟩
 rcases h2 with h2 | ⟨h0,id,g,rfl,h3,h4⟩
 ·exact .inl h2
 ·exact .inr ⟨h0,id,g,rfl,h.get h3 (by omega),h4⟩
theorem Acc1.new {u:Sto} {c k id g m:Nat} {l:List AV} (h1:u.get c=some (aU 0 [.sl id g 0 m (.room 1)])) (h2:u.get id=some (aU g l)) (hm:m=l.length) (hl:l≠[]) (hk:k<id):Acc1 u c k l:=
 ⟨_,h1,.inr ⟨hl,id,g,by rw [hm],h2,hk⟩⟩
theorem Acc1.nil {u:Sto} {c k:Nat} (h1:u.get c=some (aU 0 [.nils])):Acc1 u c k []:=⟨_,h1,.inl ⟨rfl,rfl⟩⟩
def fE (n:Nat):List AV:=(List.range n).map fun i=>.int .i64 (i:Nat)
def nX (n:Nat):AV:=if n=0 then .nils else .fz (fE n) false
theorem wR (n:Nat):(fE n).length=n:=by simp [fE]
theorem AQ (n:Nat):fE (n+1)=fE n++[.int .i64 (n:Nat)]:=by simp [fE,List.range_succ]
theorem sB (n:Nat):∀ x∈fE n,cI x:=fun x hx=>by obtain ⟨i,_,rfl⟩:=List.mem_map.1 hx;exact ⟨_,rfl⟩
theorem AR {n:Nat} (h:n<=9223372036854775807):Sl (nX n) (fE n):=by
 unfold nX
 split
 ·rename_i h0;subst h0;exact ⟨.inl ⟨rfl,rfl⟩,Nat.zero_le _⟩
 ·exact ⟨.inr ⟨false,rfl⟩,by rw [wR];exact h⟩
def uP (n:Nat):List (List AV):=(List.range n).map fun i=>[.int .i64 (i:Nat)]
abbrev xW (n:Nat):AV:=.func (.func 319) [] [.pf (.int .i64 (n:Nat))]
theorem DR (n:Nat):UnderE 0 (xW n):=hG (by intro x hx;cases hx) (by intro x hx;simp at hx;subst hx;exact ⟨2,rfl⟩)
theorem NM (n:Nat):Abs.Returns Tryz.prog 235 [.int .i64 (n:Nat)] (xW n):=by
 refine mN (L:=[]) aG aN (by kernel_rfl) Tryz.func235 Tryz.ntmps235 Tryz.results235 rfl rfl (aC aT aF) ?_
 simp +contextual +decide (maxSteps:=1000000) only [↓ wP,wQ,tf,Nat.reduceAdd,wS,reduceCtorEq]
 exact kV (cs:=[.int .i64 (n:Nat)]) rfl rfl (aC aT aF)
set_option maxHeartbeats 1000000 in
theorem FT (m:Nat) (hm:m<9223372036854775807) {O:bN} (h62:∀ a σ,O 319 a σ=none):aNb Tryz.prog O (xW m) (uP m):=by
 intro l J D X σ hl hJs hDs hXs hJ0 hr
 have hrow:(uP m).length=m:=by simp [uP]
 refine sE (h62 _ _) (by kernel_rfl) Tryz.func319 rfl (Wk.sound (H:=aN) ?_)
 rw [hrow]
 show Wk _ _ _ _ ⟨13,none,319,Tr.leaf.lay 0 [.func (.yield l) [] [],.pf (.int .i64 (m:Nat))],[],⟨σ.n,σ.n,σ.o⟩,.no⟩ _
 simp +contextual +decide (maxSteps:=1000000) only [↓ wP,wQ,tf,Nat.reduceAdd,wS,reduceCtorEq]
 refine aQ (fun i e=>∃ t u,e=⟨13,none,319,t,[],u,.no⟩/\t.val 0=.func (.yield l) [] []/\t.val 4=.int .i64 (m:Nat)/\t.val 5=.int .i64 (i:Nat)/\i<=m/\l<u.n/\J i u/\(i=0∨u.low<=l)) (fun i=>m-i) 0
  ⟨_,_,rfl,by simp +decide only [↓ aA,aE,aB],by simp +decide only [↓ aA,aE,aB],by simp +decide only [↓ aA,aE,aB];rfl,Nat.zero_le _,hl,hJs _ _ _ (Sim.low σ σ.n) hJ0,.inl rfl⟩ ?_
 rintro i _ ⟨t,⟨n,low,o⟩,rfl,h0,h4,h5,hi,hln,hJ,hlow⟩
 by_cases hlt:i<m
 ·have d1:(((i:Nat):Int)<((m:Nat):Int))=True:=eq_true (by omega)
  have d5:IntKind.i64.wrap ((i:Int)+1)=((i+1:Nat):Int):=by rw [IntWalk.i64_in _ (by omega)];rfl
  simp +contextual +decide (maxSteps:=1000000) only [↓ wP,wQ,tf,Nat.reduceAdd,wS,reduceCtorEq,h0,h4,h5,d1]
  have hcall:=hr i [.int .i64 (i:Nat)] (by simp [uP,hlt]) ⟨n,low,o⟩ hln hJ
  refine hcall.mono fun res hk=>?_
  have hk':rK l J D X i ⟨n,low,o⟩ res:=hk
  clear hk hcall
  cases res with
  | pan v so=>
    rw [NY]
    have k:(so.getD ⟨n,low,o⟩).low<=l/\X v (so.getD ⟨n,low,o⟩):=hk'
    generalize so.getD ⟨n,low,o⟩=u at *
    simp +contextual +decide (maxSteps:=1000000) only [↓ wP,wQ,tf,Nat.reduceAdd,wS,reduceCtorEq]
    exact aJs rfl (iK _ _ _ (X v) (hXs v) k.2 (.inl (Nat.lt_of_le_of_lt k.1 hl)))
  | ret v so=>
    rw [fB]
    have k:(v=.bool true/\(so.getD ⟨n,low,o⟩).low<=l/\l<(so.getD ⟨n,low,o⟩).n/\J (i+1) (so.getD ⟨n,low,o⟩))∨(v=.bool false/\(so.getD ⟨n,low,o⟩).low<=l/\D (so.getD ⟨n,low,o⟩)):=by
     cases v with
     | bool b=>cases b with
       | true=>exact .inl ⟨rfl,hk'⟩
       | false=>exact .inr ⟨rfl,hk'⟩
     | _=>exact hk'.elim
    generalize so.getD ⟨n,low,o⟩=u at *
    rcases k with ⟨rfl,k1,k0,k2⟩ | ⟨rfl,k1,k2⟩
    ·simp +contextual +decide (maxSteps:=1000000) only [↓ wP,wQ,tf,Nat.reduceAdd,wS,reduceCtorEq,h5,d5]
     exact ⟨i+1,by show _-_<_-_;omega,_,_,rfl,by simp +decide only [↓ aA,aE,aB,h0],by simp +decide only [↓ aA,aE,aB,h4],by simp +decide only [↓ aA,aE,aB],hlt,k0,k2,.inr k1⟩
    ·simp +contextual +decide (maxSteps:=1000000) only [↓ wP,wQ,tf,Nat.reduceAdd,wS,reduceCtorEq,h5,d5]
     exact nF rfl (vs:=[]) rfl (.inr (iK _ _ _ D hDs k2 (.inl (Nat.lt_of_le_of_lt k1 hl))))
 ·have d1:(((i:Nat):Int)<((m:Nat):Int))=False:=eq_false (by omega)
  simp +contextual +decide (maxSteps:=1000000) only [↓ wP,wQ,tf,Nat.reduceAdd,wS,reduceCtorEq,h4,h5,d1]
  have hic:i=m:=by omega
  refine nF rfl (vs:=[]) rfl (.inl (iK _ _ _ (J m) (hJs _) (hic ▸ hJ) ?_))
  rcases hlow with h | h
  ·refine .inr ?_
   rw [<-hic,h];exact hJ0
  ·exact .inl (Nat.lt_of_le_of_lt h hl)
set_option maxHeartbeats 4000000 in
theorem FU (m:Nat) (hm:m<=1000):Abs.Returns Tryz.prog 168 [.nils,xW m] (nX m):=by
 refine NT (L:=[]) aG aN (by kernel_rfl) Tryz.func168 Tryz.ntmps168 Tryz.results168 rfl rfl (aC fA (aC (DR m).und aF)) ?_
 have hrow:(uP m).length=m:=by simp [uP]
 simp +contextual +decide (maxSteps:=1000000) only [↓ wP,wQ,UJ,tf,Nat.reduceAdd,ne_eq]
 refine aFo (xs:=uP m) (fun i u=>Acc1 u 0 2 (fE i)) (fun _ _=>False) (fun _ _=>False) ?_ (fun i u u' h ha=>Acc1.sim h (by decide) (by decide) ha) (fun _ _ _ _ h=>h) (fun _ _ _ _ h=>h) (fun _ _ h=>h.elim) ⟨.nils,rfl,.inl ⟨rfl,rfl⟩⟩ ?_ ?_ (fun _ _ _ h=>h.elim) (fun _ _ _ _ h=>h.elim) (fun _ _ h=>h.elim)
 ·simp +decide only [↓ aA]
  exact FT m (by omega) fun a u=>rfl
 ·rintro i x hx ⟨n,low,o⟩ hn hg1 hg2 ⟨v,hv,hacc⟩
  have hi:i<m:=by
   have:=(List.getElem?_eq_some_iff.1 hx).1
   simpa [uP] using this
  have hx':x=[.int .i64 (i:Nat)]:=by
   simp [uP,hi]at hx;exact hx.symm
  subst hx'
  have hn':2<n:=hn
  have f0:=eY (i:=0) (n:=n) (by omega)
  have f1:=eY (i:=1) (n:=n) (by omega)
  have f2:=eY (i:=2) (n:=n) (by omega)
  simp +decide only [Sto.get_mk,f0,f1,f2,aL,Nat.reduceAdd]at hg1 hg2 hv
  have hsmall:(2*((fE i).length+1)+1024)*8<=281474976710656/\(fE i).length+1<4611686018427387904:=by rw [wR];omega
  refine ⟨_,rfl,?_⟩
  rcases hacc with ⟨hl,rfl⟩ | ⟨hl,id,g,rfl,hid,hk⟩
  ·simp +contextual +decide (maxSteps:=1000000) only [↓ wP,wQ,UJ,tf,Nat.reduceAdd,Nat.reduceMul,f0,f1,f2,cG,hg1,hg2,hv,fK,eL,Env.setS,ne_eq]
   rw [AQ,hl]
   refine Acc1.new (id:=n+1) (g:=0) (m:=1) ?_ ?_ rfl (by simp) (by omega)
   ·exact by simp +decide only [↓ aA,aL,aB,ne_eq,f0,f1,f2,cG]
   ·exact by simp +decide only [↓ aA,aL,aB,ne_eq,f0,f1,f2,cG]
  ·have hidn:id<n:=Sto.get_lt hid
   rw [Sto.get_mk hidn]at hid
   have f3:=eY hidn
   have f4:id≠2/\2≠id/\id≠0/\0≠id/\id≠1/\1≠id:=⟨by omega,by omega,by omega,by omega,by omega,by omega⟩
   simp +contextual +decide (maxSteps:=1000000) only [↓ wP,wQ,UJ,tf,Nat.reduceAdd,Nat.reduceMul,Nat.mul_one,Nat.zero_add,f0,f1,f2,f3,f4,cG,hg1,hg2,hv,hid,hsmall,fK,eL,Env.setS,ne_eq]
   rw [AQ]
   refine Acc1.new (id:=id) (g:=g+1) (m:=(fE i).length+1) ?_ ?_ (by simp) (by simp) hk
   ·exact by simp +decide only [↓ aA,aL,aB,ne_eq,f0,f1,f2,f3,f4,cG]
   ·exact by simp +decide only [↓ aA,aL,aB,ne_eq,f0,f1,f2,f3,f4,cG]
 ·rintro ⟨n,low,o⟩ hn hg1 ⟨v,hv,hacc⟩
  have hn':2<n:=hn
  have f0:=eY (i:=0) (n:=n) (by omega)
  have f1:=eY (i:=1) (n:=n) (by omega)
  have f2:=eY (i:=2) (n:=n) (by omega)
  rw [hrow]at hacc
  simp +decide only [Sto.get_mk,f0,f1,f2,aL,Nat.reduceAdd]at hg1 hv
  simp +contextual +decide (maxSteps:=1000000) only [↓ wP,wQ,UJ,tf,Nat.reduceAdd,Nat.reduceMul,f0,f1,f2,cG,hg1,hv,ne_eq]
  rcases hacc with ⟨hl,rfl⟩ | ⟨hl,id,g,rfl,hid,hk⟩
  ·have h0:m=0:=by rw [<-wR m,hl];rfl
   rw [nX,if_pos h0]
   exact .und _ fA
  ·have h0:m≠0:=fun h=>hl (by subst h;rfl)
   rw [nX,if_neg h0]
   have hid':=Sto.get_lt hid
   rw [Sto.get_mk hid']at hid
   refine qZ (g:=g) (cs:=fE m) (Nat.zero_le _) ?_ rfl (by simp) (fun x hx=>(tu_int x (sB m x hx)).2) fun j x y hx hy=>?_
   ·rw [Sto.get_mk hid',Tr.get_set_ne _ _ (by omega)];exact hid
   ·rw [Nat.zero_add]at hx
    rw [hx]at hy
    cases hy
    exact .und _ (tu_int x (sB m x (List.mem_of_getElem? hx))).1.und
theorem NN (m:Nat) (hm:m<=1000):Abs.Returns Tryz.prog 113 [xW m] (nX m):=by
 refine aH (L:=[lQ 168 [.nils,xW m] (nX m)]) (elist_cons (cZ (FU m hm)) aG) aN (by kernel_rfl) Tryz.func113 Tryz.ntmps113 Tryz.results113 rfl rfl (aC (DR m).und aF) (rF (AR (by omega)) fun x hx=>(tu_int x (sB m x hx)).1).und ?_
 simp +contextual +decide (maxSteps:=1000000) only [↓ wP,wQ,tf,Nat.reduceAdd,wS,reduceCtorEq,fT]
end
end Go.Proofs.YthakciolcdlphaaGreat
