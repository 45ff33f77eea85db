/-
  The reference of meanings: worlds as they are defined.
-/
import Derived.Test.YtifmdaalhclhgaaGreatNk
set_option linter.unusedVariables false
set_option linter.unusedSimpArgs false
namespace Go.Proofs.YtifmdaalhclhgaaGreat
open Go.Abs Go Go.Abs.TryzF
noncomputable section
set_option maxRecDepth 10000
def iO (most:Int) (xs:List AV):Bool:=decide ((xs.length:Int)<=most)&&xs.all fun x=>nA x.num
abbrev LH:List AV->Option AV:=oY (fun a b=>fG a/\cL b) fun a b=>.bool (iO b.num a.els)
theorem rInts_ok:Abs.Ok Tryz.prog 79 LH:=ok2 fun a b ⟨ha,hb⟩=>by
 obtain ⟨most,rfl⟩:=hb;have hua:=(aN a ha).1;obtain ⟨xs,hs,hxs⟩:=ha;have hl:=hs.2;refine aE (L:=[ent 80 gA]) (elist_cons rIn6_ok.ent aF) aH (by kernel_rfl) Tryz.func79 Tryz.ntmps79 Tryz.results79 rfl rfl (aA hua.und (aA aP aD)) aG ?_;rw [hs.els,show (AV.int .i64 most).num=most from rfl];simp +contextual +decide (maxSteps:=1000000) only [↓ wP,wQ];refine aO (fun i e=>∃ t n low o,e=⟨27,none,79,t,[],⟨n,low,o⟩,.no⟩/\t.val 0=a/\t.val 1=.int .i64 most/\t.val 5=.int .i64 (i:Nat)/\0<=n/\i<=xs.length/\iO most xs=(decide ((xs.length:Int)<=most)&&(xs.drop i).all fun x=>nA x.num)) (fun i=>xs.length-i) 0 ⟨_,_,_,_,rfl,by simp +decide only [↓ aB,bR,aY],by simp +decide only [↓ aB,bR,aY],by simp +decide only [↓ aB];rfl,by omega,Nat.zero_le _,rfl⟩ ?_;rintro i _ ⟨t,n,low,o,rfl,t0,t1,t5,hn,hi,hq⟩
 rcases Nat.lt_or_ge i xs.length with hlt | hge
 ·obtain ⟨y,hDy,hm,hg,hd,hix,hw,hc⟩:=aW (fun x h=>tu_int.len h) hxs hl hlt
  rw [hd,List.all_cons]at hq
  have hpf:=fun {d:Option AV}=>tu_int.pf hDy (d:=d)
  obtain ⟨z,rfl⟩:=hDy;by_cases km:((i:Nat):Int)<=most
  ·cases hp:nA z with
   | false=>
     rw [show (AV.int .i64 z).num=z from rfl,hp,Bool.false_and,Bool.and_false]at hq;have hp':inR z (-1000000000) 1000000000=false:=hp;simp +contextual +decide (maxSteps:=1000000) only [↓ wP,wQ,tf,wS,t0,t1,t5,hs.len,hs.idx,hix,hc,hpf,km,aI,hp',hq]
   | true=>
     rw [show (AV.int .i64 z).num=z from rfl,hp,Bool.true_and]at hq;have hp':inR z (-1000000000) 1000000000=true:=hp;simp +contextual +decide (maxSteps:=1000000) only [↓ wP,wQ,tf,wS,t0,t1,t5,hs.len,hs.idx,hix,hc,hpf,km,aI,hp',hw];exact ⟨i+1,by show _-_<_-_;omega,_,_,_,_,rfl,by simp +decide only [↓ aB,t0],by simp +decide only [↓ aB,t1],by simp +decide only [↓ aB],by omega,hlt,hq⟩
  ·have hgt:(((xs.length:Nat):Int)<=most)=False:=eq_false (by omega)
   rw [decide_eq_false (fun h=>(hgt ▸ h:False)),Bool.false_and]at hq;simp +contextual +decide (maxSteps:=1000000) only [↓ wP,wQ,tf,wS,t0,t1,t5,hs.len,hc,km,hgt,hq]
 ·obtain rfl:i=xs.length:=Nat.le_antisymm hi hge
  rw [List.drop_length,List.all_nil,Bool.and_true]at hq;simp +contextual +decide (maxSteps:=1000000) only [↓ wP,wQ,tf,wS,t0,t1,t5,hs.len,aS,hq]
abbrev tO:List AV->Option AV:=oY (fun a b=>fG a/\cL b) fun a b=>.bool (a.els.any fun x=>decide (x.num=b.num))
theorem rlisted_ok:Abs.Ok Tryz.prog 125 tO:=ok2 fun a b ⟨ha,hb⟩=>by
 obtain ⟨m,rfl⟩:=hb;have hua:=(aN a ha).1;obtain ⟨xs,hs,hxs⟩:=ha;have hl:=hs.2;refine aE (L:=[]) aF aH (by kernel_rfl) Tryz.func125 Tryz.ntmps125 Tryz.results125 rfl rfl (aA hua.und (aA aP aD)) aG ?_;rw [hs.els,show (AV.int .i64 m).num=m from rfl];simp +contextual +decide (maxSteps:=1000000) only [↓ wP,wQ];refine aO (fun i e=>∃ t n low o,e=⟨18,none,125,t,[],⟨n,low,o⟩,.no⟩/\t.val 0=a/\t.val 1=.int .i64 m/\t.val 5=.int .i64 (i:Nat)/\0<=n/\i<=xs.length/\(xs.any fun x=>decide (x.num=m))=((xs.drop i).any fun x=>decide (x.num=m))) (fun i=>xs.length-i) 0 ⟨_,_,_,_,rfl,by simp +decide only [↓ aB,bR,aY],by simp +decide only [↓ aB,bR,aY],by simp +decide only [↓ aB];rfl,by omega,Nat.zero_le _,rfl⟩ ?_;rintro i _ ⟨t,n,low,o,rfl,t0,t1,t5,hn,hi,hq⟩
 rcases Nat.lt_or_ge i xs.length with hlt | hge
 ·obtain ⟨y,hDy,hm,hg,hd,hix,hw,hc⟩:=aW (fun x h=>tu_int.len h) hxs hl hlt
  rw [hd,List.any_cons]at hq
  have hpf:=fun {d:Option AV}=>tu_int.pf hDy (d:=d)
  obtain ⟨z,rfl⟩:=hDy;by_cases hz:z=m
  ·rw [show (AV.int .i64 z).num=z from rfl,decide_eq_true hz,Bool.true_or]at hq
   simp +contextual +decide (maxSteps:=1000000) only [↓ wP,wQ,tf,wS,t0,t1,t5,hs.len,hs.idx,hix,hc,hz,hq]
  ·rw [show (AV.int .i64 z).num=z from rfl,decide_eq_false hz,Bool.false_or]at hq
   simp +contextual +decide (maxSteps:=1000000) only [↓ wP,wQ,tf,wS,t0,t1,t5,hs.len,hs.idx,hix,hc,hpf,hz,hw];exact ⟨i+1,by show _-_<_-_;omega,_,_,_,_,rfl,by simp +decide only [↓ aB,t0],by simp +decide only [↓ aB,t1],by simp +decide only [↓ aB],by omega,hlt,hq⟩
 ·obtain rfl:i=xs.length:=Nat.le_antisymm hi hge
  rw [List.drop_length,List.any_nil]at hq;simp +contextual +decide (maxSteps:=1000000) only [↓ wP,wQ,tf,wS,t0,t5,hs.len,aS,hq]
def lB (os:List AV):List AV->List AV->Bool
 | _,[]=>true
 | pre,x::l=>kB os x.num && !(pre.any fun y=>decide (y.num=x.num))&&lB os (pre++[x]) l
def gS (os ts:List AV):Bool:=decide ((ts.length:Int)=(dB os:Nat))&&lB os [] ts
theorem HK {xs:List AV} {x:AV} {i:Nat} (h:xs[i]?=some x):dB (xs.take (i+1))=dB (xs.take i)+(if (x.fld 0).num=6 then 1 else 0):=by
 rw [List.take_add_one,h,dB,dB,List.filter_append,List.length_append];by_cases h6:(x.fld 0).num=6<;>simp [h6]
theorem nZ (xs:List AV) (i:Nat):dB xs=dB (xs.take i)+dB (xs.drop i):=by rw [dB,dB,dB,<-List.length_append,<-List.filter_append,List.take_append_drop]
theorem QN (xs:List AV):dB xs<=xs.length:=List.length_filter_le _ _
abbrev DU:List AV->Option AV:=pE rP fun w=>.bool (gS (w.fld 0).els (w.fld 1).els)
set_option maxHeartbeats 4000000 in
theorem rtasks_ok:Abs.Ok Tryz.prog 81 DU:=sW fun w hw=>by
 have huw:=(tk_wd w hw).1;obtain ⟨os,ts,us,is,uu,rfl,ho,ht,hu,hi,hv⟩:=hw;have c1:=(gC _ ho).2;have c2:=(aN _ ht).2;have c3:=(cR _ hu).2;have c4:=(aN _ hi).2;have c5:=(tu_int _ hv).2;obtain ⟨xs,hs,hxs⟩:=ho;obtain ⟨ys,hy,hys⟩:=ht;have hl:=hs.2;have hly:=hy.2;have w1:=bP hs.2;refine aE (L:=[ent 80 gA,ent 125 tO]) (elist_cons rIn6_ok.ent (elist_cons rlisted_ok.ent aF)) aH (by kernel_rfl) Tryz.func81 Tryz.ntmps81 Tryz.results81 rfl rfl (aA huw.und aD) aG ?_;show Wk _ _ _ _ _ (iB _ _ (fun _ r=>r=.bool (gS os.els ts.els)) _);rw [hs.els,hy.els];simp +contextual +decide (maxSteps:=1000000) only [↓ wP,wQ,Nat.reduceAdd,wS,c1,c2,c3,c4,c5];refine aO (fun i e=>∃ t n low o,e=⟨62,none,81,t,[],⟨n,low,o⟩,.no⟩/\t.val 1=.ptr 0 0 0/\t.val 3=.int .i64 ((dB (xs.take i):Nat):Int)/\t.val 4=.int .i64 (i:Nat)/\o.get 0=some (bF 0 [os,ts,us,is,uu])/\1<=n/\i<=xs.length/\dB xs=dB (xs.take i)+dB (xs.drop i)) (fun i=>xs.length-i) 0 ⟨_,_,_,_,rfl,by simp +decide only [↓ aB],by simp +decide only [↓ aB];rfl,by simp +decide only [↓ aB];rfl,by simp +decide only [↓ aB],by omega,Nat.zero_le _,nZ _ _⟩ ?_;rintro i _ ⟨t,n,low,o,rfl,t1,t3,t4,g0,hn,hi,hq⟩;have f0:=cP (show 0<n by omega)
 rcases Nat.lt_or_ge i xs.length with hlt | hge
 ·obtain ⟨y,hDy,hm,hg,hd,hix,hw,hc⟩:=aW (fun x h=>tk_ob.len h) hxs hl hlt
  have hpf:=fun {d:Option AV}=>tk_ob.pf hDy (d:=d)
  have hT:=HK hg;have hle:=QN (xs.take i);rw [List.length_take]at hle;obtain ⟨_,_,v,g,rfl,⟨k,rfl⟩,⟨m,rfl⟩,hv',hg'⟩:=hDy;have cv:=(aM _ hv').2;have cg:=(cJ _ hg').2
  have hw2:IntKind.i64.wrap (((dB (xs.take i):Nat):Int)+1)=((dB (xs.take i)+1:Nat):Int):=by rw [IntWalk.i64_in _ (by omega)];rfl
  by_cases k6:k=6
  ·rw [show ((AV.agg [.int .i64 k,.int .i64 m,v,g]).fld 0).num=k from rfl,if_pos k6]at hT
   simp +contextual +decide (maxSteps:=1000000) only [↓ wP,wQ,tf,Nat.reduceAdd,wS,t1,t3,t4,g0,f0,hs.len,hs.idx,hix,hc,k6,hw,hw2];exact ⟨i+1,by show _-_<_-_;omega,_,_,_,_,rfl,by simp +decide only [↓ aB,t1],by simp +decide only [↓ aB,hT],by simp +decide only [↓ aB],by simp +decide only [g0],by omega,hlt,nZ _ _⟩
  ·rw [show ((AV.agg [.int .i64 k,.int .i64 m,v,g]).fld 0).num=k from rfl,if_neg k6]at hT
   simp only [Nat.add_zero]at hT;simp +contextual +decide (maxSteps:=1000000) only [↓ wP,wQ,tf,Nat.reduceAdd,wS,t1,t4,g0,f0,hs.len,hs.idx,hix,hc,k6,hw];exact ⟨i+1,by show _-_<_-_;omega,_,_,_,_,rfl,by simp +decide only [↓ aB,t1],by simp +decide only [↓ aB,t3,hT],by simp +decide only [↓ aB],by simp +decide only [g0],by omega,hlt,nZ _ _⟩
 ·obtain rfl:i=xs.length:=Nat.le_antisymm hi hge
  rw [List.take_length]at t3;clear hq
  by_cases k1:((ys.length:Nat):Int)=((dB xs:Nat):Int)
  ·have hyl:ys.length=dB xs:=by omega
   have hspec:gS xs ys=lB xs [] ys:=by rw [gS,decide_eq_true k1,Bool.true_and]
   rw [hspec];simp +contextual +decide (maxSteps:=1000000) only [↓ wP,wQ,tf,Nat.reduceAdd,wS,t1,t3,t4,g0,f0,hs.len,aS,hy.len,k1];refine aO (fun i e=>∃ t n low o,e=⟨62,none,81,t,[],⟨n,low,o⟩,.no⟩/\t.val 1=.ptr 0 0 0/\t.val 3=.int .i64 ((dB xs:Nat):Int)/\t.val 5=.int .i64 (i:Nat)/\o.get 0=some (bF 0 [os,ts,us,is,uu])/\1<=n/\i<=ys.length/\lB xs [] ys=lB xs (ys.take i) (ys.drop i)) (fun i=>ys.length-i) 0 ⟨_,_,_,_,rfl,by simp +decide only [↓ aB,t1],by simp +decide only [↓ aB,t3],by simp +decide only [↓ aB];rfl,by simp +decide only [g0],by omega,Nat.zero_le _,rfl⟩ ?_;rintro i _ ⟨t,n,low,o,rfl,t1,t3,t5,g0,hn,hi,hq⟩;have f0:=cP (show 0<n by omega)
   rcases Nat.lt_or_ge i ys.length with hlt | hge
   ·obtain ⟨y,hDy,hm,hg,hd,hix,hw,hc⟩:=aW (fun x h=>tu_int.len h) hys hly hlt
    have hpf:=fun {d:Option AV}=>tu_int.pf hDy (d:=d)
    have hc':(((i:Nat):Int)<((dB xs:Nat):Int))=True:=eq_true (by omega);obtain ⟨b,hb,hsl⟩:=hy.upto (k:=1) (fun x hm=>tu_int.len (hys x hm)) (n:=((i:Nat):Int)) (by omega) (by omega);rw [Int.toNat_natCast]at hb
    have htk:ys.take (i+1)=ys.take i++[y]:=by rw [List.take_add_one,hg];rfl
    obtain ⟨z,rfl⟩:=hDy
    have hli:tO [b,.int .i64 z]=some (.bool ((ys.take i).any fun x=>decide (x.num=z))):=by
     rw [tO,sg2_eq ⟨⟨_,hb,fun x hx=>hys x (List.mem_of_mem_take hx)⟩,_,rfl⟩,hb.els];rfl
    rw [hd,lB,show (AV.int .i64 z).num=z from rfl,<-htk]at hq
    cases k2:inR z 0 ((xs.length:Int)-1) with
    | false=>
      rw [kB,k2,Bool.false_and,Bool.false_and,Bool.false_and]at hq;simp +contextual +decide (maxSteps:=1000000) only [↓ wP,wQ,tf,Nat.reduceAdd,wS,t1,t3,t5,g0,f0,hs.len,hy.idx,hix,hc',hpf,w1,aI,k2,hq]
    | true=>
      obtain ⟨o',hDo,_,ho',hix2,hpf2,_,_⟩:=lC tk_ob hxs k2;obtain ⟨_,_,v,g,rfl,⟨k,rfl⟩,⟨m,rfl⟩,hv',hg'⟩:=hDo;have cv:=(aM _ hv').2;have cg:=(cJ _ hg').2
      have hit:kB xs z=decide (k=6):=by rw [kB,k2,Bool.true_and,ho'];rfl
      rw [hit]at hq;by_cases k6:k=6
      ·rw [decide_eq_true k6,Bool.true_and]at hq
       cases k3:(ys.take i).any fun x=>decide (x.num=z) with
       | true=>
         rw [k3,Bool.not_true,Bool.false_and]at hq;simp +contextual +decide (maxSteps:=1000000) only [↓ wP,wQ,tf,Nat.reduceAdd,wS,t1,t3,t5,g0,f0,hs.len,hs.idx,hy.idx,hix,hix2,hc',hpf,w1,aI,k2,k6,hsl,hli,k3,hq]
       | false=>
         rw [k3,Bool.not_false,Bool.true_and]at hq;simp +contextual +decide (maxSteps:=1000000) only [↓ wP,wQ,tf,Nat.reduceAdd,wS,t1,t3,t5,g0,f0,hs.len,hs.idx,hy.idx,hix,hix2,hc',hpf,w1,aI,k2,k6,hsl,hli,k3,hw];exact ⟨i+1,by show _-_<_-_;omega,_,_,_,_,rfl,by simp +decide only [↓ aB,t1],by simp +decide only [↓ aB,t3],by simp +decide only [↓ aB],by simp +decide only [g0],by omega,hlt,hq⟩
      ·rw [decide_eq_false k6,Bool.false_and,Bool.false_and]at hq
       simp +contextual +decide (maxSteps:=1000000) only [↓ wP,wQ,tf,Nat.reduceAdd,wS,t1,t3,t5,g0,f0,hs.len,hs.idx,hy.idx,hix,hix2,hc',hpf,w1,aI,k2,k6,hq]
   ·obtain rfl:i=ys.length:=Nat.le_antisymm hi hge
    have hc':(((ys.length:Nat):Int)<((dB xs:Nat):Int))=False:=eq_false (by omega);rw [List.drop_length,lB]at hq;simp +contextual +decide (maxSteps:=1000000) only [↓ wP,wQ,wS,t3,t5,hc',hq]
  ·simp +contextual +decide (maxSteps:=1000000) only [↓ wP,wQ,tf,Nat.reduceAdd,wS,t1,t3,t4,g0,f0,hs.len,aS,hy.len,k1]
   rw [gS,decide_eq_false k1];rfl
def LI (ns cs:List AV) (nf no:Int) (o:AV):Bool:=jZ ns cs nf no (o.fld 0).num (o.fld 1).num (o.fld 2).els (o.fld 3).els
def kL (ns cs:List AV) (nf:Int) (os ts us is:List AV) (n:Int):Bool:=
 decide ((os.length:Int)<=120)&&(decide ((us.length:Int)<=100)&&(iO 50 is&&(inR n 0 1000000000&&(gS os ts&&(os.all (LI ns cs nf os.length)&&us.all vD)))))
theorem VO {a b:AV} (ha:fH a) (hb:rP b):∃ ns fs mm cs os ts us is uu,a=pg ns fs mm cs/\b=wd os ts us is uu/\RW ns fs mm cs os ts us is uu:=by
 obtain ⟨_,_,_,_,rfl,a1,a2,a3,a4⟩:=ha;obtain ⟨_,_,_,_,_,rfl,b1,b2,b3,b4,b5⟩:=hb;exact ⟨_,_,_,_,_,_,_,_,_,rfl,rfl,a1,a2,a3,a4,b1,b2,b3,b4,b5⟩
abbrev DV:List AV->Option AV:=oY (fun a b=>fH a/\rP b) fun a b=>.bool (kL (a.fld 0).els (a.fld 3).els (a.fld 1).els.length (b.fld 0).els (b.fld 1).els (b.fld 2).els (b.fld 3).els (b.fld 4).num)
set_option maxHeartbeats 8000000 in
theorem rWorld_ok:Abs.Ok Tryz.prog 42 DV:=ok2 fun a b ⟨ha,hb⟩=>by
 obtain ⟨ns,fs,mm,cs,os,ts,us,is,uu,rfl,rfl,h⟩:=VO ha hb;obtain ⟨c1,c2,c3,c4,c5,c6,c7,c8,c9⟩:=h.cells;obtain ⟨m,hm⟩:=h.uu;have hi0:LH [is,.int .i64 50]=some (.bool (iO 50 is.els)):=sg2_eq ⟨h.is,_,rfl⟩;have ht0:DU [wd os ts us is uu]=some (.bool (gS os.els ts.els)):=bS h.wd;obtain ⟨xo,ho,hxo⟩:=h.os;obtain ⟨xu,hu,hxu⟩:=h.us
 refine aE (L:=[ent 80 gA,ent 79 LH,ent 81 DU,ent 82 (aFl (pg ns fs mm cs) (wd os ts us is uu) ns.els cs.els fs.els.length os.els.length)]) (elist_cons rIn6_ok.ent (elist_cons rInts_ok.ent (elist_cons rtasks_ok.ent (elist_cons (LM h).ent aF))))
  (fun r=>(bif Nat.beq r 6 then [7] else [],[])) (by kernel_rfl) Tryz.func42 Tryz.ntmps42 Tryz.results42 rfl rfl (aA (cU _ h.pg).1.und (aA (tk_wd _ h.wd).1.und aD)) aG ?_
 subst hm;show Wk _ _ _ _ _ (iB _ _ (fun _ r=>r=.bool (kL ns.els cs.els fs.els.length os.els ts.els us.els is.els m)) _);have hsp:kL ns.els cs.els fs.els.length os.els ts.els us.els is.els m=(decide ((os.els.length:Int)<=120)&&(decide ((us.els.length:Int)<=100)&&(iO 50 is.els&&(inR m 0 1000000000&&(gS os.els ts.els&&(os.els.all (LI ns.els cs.els fs.els.length os.els.length)&&us.els.all vD)))))):=rfl;generalize kL ns.els cs.els fs.els.length os.els ts.els us.els is.els m=W at *;rw [ho.els,hu.els]at hsp;have hlo:=ho.2;have hlu:=hu.2;by_cases k1:((xo.length:Nat):Int) > 120
 ·rw [decide_eq_false (show ¬ ((xo.length:Nat):Int)<=120 by omega),Bool.false_and]at hsp
  simp +contextual +decide (maxSteps:=1000000) only [↓ wP,wQ,tf,Nat.reduceAdd,wS,c1,c2,c3,c4,c5,c6,c7,c8,c9,ho.len,k1,hsp]
 by_cases k2:((xu.length:Nat):Int) > 100
 ·rw [decide_eq_false (show ¬ ((xu.length:Nat):Int)<=100 by omega),Bool.false_and,Bool.and_false]at hsp
  simp +contextual +decide (maxSteps:=1000000) only [↓ wP,wQ,tf,Nat.reduceAdd,wS,c1,c2,c3,c4,c5,c6,c7,c8,c9,ho.len,hu.len,k1,k2,hsp]
 rw [decide_eq_true (show ((xo.length:Nat):Int)<=120 by omega),Bool.true_and,decide_eq_true (show ((xu.length:Nat):Int)<=100 by omega),Bool.true_and]at hsp
 cases k3:iO 50 is.els with
 | false=>
   rw [k3,Bool.false_and]at hsp;simp +contextual +decide (maxSteps:=1000000) only [↓ wP,wQ,tf,Nat.reduceAdd,wS,c1,c2,c3,c4,c5,c6,c7,c8,c9,ho.len,hu.len,k1,k2,hi0,k3,hsp]
 | true=>
 rw [k3,Bool.true_and]at hsp
 cases k4:inR m 0 1000000000 with
 | false=>
   rw [k4,Bool.false_and]at hsp;simp +contextual +decide (maxSteps:=1000000) only [↓ wP,wQ,tf,Nat.reduceAdd,wS,c1,c2,c3,c4,c5,c6,c7,c8,c9,ho.len,hu.len,k1,k2,hi0,k3,aI,k4,hsp]
 | true=>
 rw [k4,Bool.true_and]at hsp
 cases k5:gS os.els ts.els with
 | false=>
   rw [<-ho.els,k5,Bool.false_and]at hsp;simp +contextual +decide (maxSteps:=1000000) only [↓ wP,wQ,tf,Nat.reduceAdd,wS,c1,c2,c3,c4,c5,c6,c7,c8,c9,ho.len,hu.len,k1,k2,hi0,k3,aI,k4,ht0,k5,hsp]
 | true=>
 rw [<-ho.els,k5,Bool.true_and,ho.els]at hsp;simp +contextual +decide (maxSteps:=1000000) only [↓ wP,wQ,tf,Nat.reduceAdd,wS,c1,c2,c3,c4,c5,c6,c7,c8,c9,ho.len,hu.len,k1,k2,hi0,k3,aI,k4,ht0,k5];refine aO (fun i e=>∃ t n low o,e=⟨75,none,42,t,[],⟨n,low,o⟩,.no⟩/\t.val 2=.ptr 0 0 0/\t.val 3=.ptr 1 0 0/\t.val 5=.int .i64 (i:Nat)/\o.get 0=some (bF 0 [ns,fs,mm,cs])/\o.get 1=some (bF 0 [os,ts,us,is,.int .i64 m])/\2<=n/\i<=xo.length/\W=((xo.drop i).all (LI ns.els cs.els fs.els.length xo.length)&&xu.all vD)) (fun i=>xo.length-i) 0 ⟨_,_,_,_,rfl,by simp +decide only [↓ aB],by simp +decide only [↓ aB],by simp +decide only [↓ aB];rfl,by simp +decide only [↓ aB,ne_eq],by simp +decide only [↓ aB],by omega,Nat.zero_le _,hsp⟩ ?_;rintro i _ ⟨t,n,low,o,rfl,t2,t3,t5,g0,g1,hn,hi,hq⟩;have f0:=cP (show 0<n by omega);have f1:=cP (show 1<n by omega)
 rcases Nat.lt_or_ge i xo.length with hlt | hge
 ·obtain ⟨y,hDy,hm,hg,hd,hix,hw,hc⟩:=aW (fun x h=>tk_ob.len h) hxo hlo hlt
  rw [hd,List.all_cons,Bool.and_assoc]at hq
  have hpf:=fun {d:Option AV}=>tk_ob.pf hDy (d:=d)
  have hv:aFl (pg ns fs mm cs) (wd os ts us is (.int .i64 m)) ns.els cs.els fs.els.length os.els.length [pg ns fs mm cs,wd os ts us is (.int .i64 m),y]=some (.bool (LI ns.els cs.els fs.els.length os.els.length y)):=jE ⟨rfl,rfl,hDy⟩;rw [<-ho.els]at hq
  cases hp:LI ns.els cs.els fs.els.length os.els.length y with
  | false=>
    rw [hp,Bool.false_and]at hq;simp +contextual +decide (maxSteps:=1000000) only [↓ wP,wQ,tf,Nat.reduceAdd,wS,t2,t3,t5,g0,g1,f0,f1,ho.len,ho.idx,hix,hc,hpf,hv,hp,hq]
  | true=>
    rw [hp,Bool.true_and]at hq;simp +contextual +decide (maxSteps:=1000000) only [↓ wP,wQ,tf,Nat.reduceAdd,wS,t2,t3,t5,g0,g1,f0,f1,ho.len,ho.idx,hix,hc,hpf,hv,hp,hw];rw [ho.els]at hq;exact ⟨i+1,by show _-_<_-_;omega,_,_,_,_,rfl,by simp +decide only [↓ aB,t2],by simp +decide only [↓ aB,t3],by simp +decide only [↓ aB],by simp +decide only [g0],by simp +decide only [g1],by omega,hlt,hq⟩
 ·obtain rfl:i=xo.length:=Nat.le_antisymm hi hge
  rw [List.drop_length,List.all_nil,Bool.true_and]at hq;simp +contextual +decide (maxSteps:=1000000) only [↓ wP,wQ,tf,Nat.reduceAdd,wS,t3,t5,g1,f1,ho.len,aS];have hq':=hq;clear hq;refine aO (fun i e=>∃ t n low o,e=⟨75,none,42,t,[],⟨n,low,o⟩,.no⟩/\t.val 2=.ptr 0 0 0/\t.val 3=.ptr 1 0 0/\t.val 6=.int .i64 (i:Nat)/\o.get 0=some (bF 0 [ns,fs,mm,cs])/\o.get 1=some (bF 0 [os,ts,us,is,.int .i64 m])/\2<=n/\i<=xu.length/\W=(xu.drop i).all vD) (fun i=>xu.length-i) 0 ⟨_,_,_,_,rfl,by simp +decide only [↓ aB,t2],by simp +decide only [↓ aB,t3],by simp +decide only [↓ aB];rfl,by simp +decide only [g0],by simp +decide only [g1],by omega,Nat.zero_le _,hq'⟩ ?_;rintro i _ ⟨t,n,low,o,rfl,t2,t3,t6,g0,g1,hn,hi,hq⟩;have f0:=cP (show 0<n by omega);have f1:=cP (show 1<n by omega)
  rcases Nat.lt_or_ge i xu.length with hlt | hge
  ·obtain ⟨y,hDy,hm,hg,hd,hix,hw,hc⟩:=aW (fun x h=>tk_out.len h) hxu hlu hlt
   rw [hd,List.all_cons]at hq;obtain ⟨_,_,rfl,⟨p,rfl⟩,⟨v,rfl⟩⟩:=hDy;have he:vD (.agg [.int .i64 p,.int .i64 v])=(inR p 0 3&&inR v (-1000000000) 1000000000):=rfl;rw [he]at hq
   cases k6:inR p 0 3 with
   | false=>
     rw [k6,Bool.false_and,Bool.false_and]at hq;simp +contextual +decide (maxSteps:=1000000) only [↓ wP,wQ,tf,Nat.reduceAdd,wS,t3,t6,g1,f1,hu.len,hu.idx,hix,hc,aI,k6,hq]
   | true=>
     cases k7:inR v (-1000000000) 1000000000 with
     | false=>
       rw [k6,k7,Bool.and_false,Bool.false_and]at hq;simp +contextual +decide (maxSteps:=1000000) only [↓ wP,wQ,tf,Nat.reduceAdd,wS,t3,t6,g1,f1,hu.len,hu.idx,hix,hc,aI,k6,k7,hq]
     | true=>
       rw [k6,k7,Bool.and_true,Bool.true_and]at hq;simp +contextual +decide (maxSteps:=1000000) only [↓ wP,wQ,tf,Nat.reduceAdd,wS,t3,t6,g1,f1,hu.len,hu.idx,hix,hc,aI,k6,k7,hw];exact ⟨i+1,by show _-_<_-_;omega,_,_,_,_,rfl,by simp +decide only [↓ aB,t2],by simp +decide only [↓ aB,t3],by simp +decide only [↓ aB],by simp +decide only [g0],by simp +decide only [g1],by omega,hlt,hq⟩
  ·obtain rfl:i=xu.length:=Nat.le_antisymm hi hge
   rw [List.drop_length,List.all_nil]at hq;simp +contextual +decide (maxSteps:=1000000) only [↓ wP,wQ,tf,Nat.reduceAdd,wS,t3,t6,g1,f1,hu.len,aS,hq]
end
end Go.Proofs.YtifmdaalhclhgaaGreat
/-
 Calls that read the store: whether something is so of all numbers of a list,by a function that reads what its maker keeps.
-/
namespace Go.Abs
noncomputable section
variable {P:Program}
theorem mX {L:List nE} (hL:∀ x∈L,dG P x) (H:dL) {f:FuncId} {fn:Func} {c:Code} {N:Nat} {rs:List ResultVar} {args:List AV} {v:AV} {s:Sto} (hok:okFn P f=true) (hf:P.funcs[f]?=some fn) (hn:fn.ntmps=N) (hr:fn.results=rs.toArray) (hb:fn.body=some c)
 (ha:Nat.ble args.length N=true) (hv:Und s.n v)
 (h:Wk P (bI L) H c ⟨N,none,f,Tr.leaf.lay 0 args,[],⟨s.n,s.n,s.o⟩,.no⟩ (iB P rs (fun S r=>s.n<=S.low/\r=v) fun _ _=>False)):bW P f args s (.ret v none):=by
 refine ME (qX hL) hok hf hb hv ?_;rw [lK hn ha,show fn.results.toList=rs by rw [hr]];exact h.sound
theorem aAv {n low low':Nat} {o:Tr AObj} {x:AObj}:Sim ⟨n,low,o⟩ ⟨n+1,low',o.set n x⟩:=⟨Nat.le_succ _,fun id hid=>by
 have hid':id<n:=hid
 rw [Sto.get_mk hid',Sto.get_mk (by omega),Tr.get_set_ne _ _ (by omega)]⟩
theorem DW {s:Sto} {low:Nat}:Sim s ⟨s.n,low,s.o⟩:=⟨Nat.le_refl _,fun _ _=>rfl⟩
end
end Go.Abs
namespace Go.Proofs.YtifmdaalhclhgaaGreat
open Go.Abs Go Go.Abs.TryzF
noncomputable section
set_option maxRecDepth 10000
abbrev aAw (g:FuncId) (cap:List AV) (D:AV->Prop) (S:Sto->Prop) (p:AV->Bool):nE:=entB g (fun args s=>(∃ x,D x/\args=x::cap)/\S s) fun args=>.bool (p (args.headD .top))
theorem OK {g:FuncId} {cap:List AV} {D:AV->Prop} {S:Sto->Prop} {p:AV->Bool} (h:∀ x,D x->∀ s,S s->bW Tryz.prog g (x::cap) s (.ret (.bool (p x)) none)):dG Tryz.prog (aAw g cap D S p):=
 entB_ok fun args s ⟨⟨x,hx,e⟩,hs⟩=>by subst e;exact h x hx s hs
theorem BS {g:FuncId} {cap:List AV} {D:AV->Prop} {S:Sto->Prop} {p:AV->Bool} {L:List nE} {x:AV} {s:Sto} (hx:D x) (hs:S s):bI (aAw g cap D S p::L) g (x::cap) s=some (.ret (.bool (p x)) none):=bQ ⟨⟨x,hx,rfl⟩,hs⟩
variable {g:FuncId} {cap:List AV} {D:AV->Prop} {S:Sto->Prop} {p:AV->Bool}
theorem QO (hS:∀ s s',Sim s s'->S s->S s') (hD:∀ x,D x->cL x) (h:∀ x,D x->∀ s,S s->bW Tryz.prog g (x::cap) s (.ret (.bool (p x)) none)) {a:AV} (ha:TSl D a) (s:Sto) (hs0:S s):
 bW Tryz.prog 330 [a,.func (.func g) [] cap] s (.ret (.int .i64 (cC p a.els 0)) none):=by
 obtain ⟨xs,hs,hx⟩:=ha;have hl:=hs.2;refine mX (L:=[aAw g cap D S p]) (elist_cons (OK h) aF) aH (by kernel_rfl) Tryz.func330 Tryz.ntmps330 Tryz.results330 rfl rfl aP ?_;have hS1:∀ {low:Nat},S ⟨s.n,low,s.o⟩:=hS _ _ DW hs0;obtain ⟨n0,low0,o0⟩:=s;have hS1:∀ {low:Nat},S ⟨n0,low,o0⟩:=hS1;rw [hs.els];simp +contextual +decide (maxSteps:=1000000) only [↓ wP,wQ,tf,wS,hs.len];refine aO (fun i e=>∃ t,e=⟨19,none,330,t,[],⟨n0,n0,o0⟩,.no⟩/\t.val 0=a/\t.val 1=.func (.func g) [] cap/\t.val 7=.int .i64 (xs.length:Nat)/\t.val 8=.int .i64 (i:Nat)/\i<=xs.length/\cC p xs 0=cC p (xs.drop i) i) (fun i=>xs.length-i) 0 ⟨_,rfl,by simp +decide only [↓ aB,bR,aY],by simp +decide only [↓ aB,bR,aY],by simp +decide only [↓ aB],by simp +decide only [↓ aB];rfl,Nat.zero_le _,rfl⟩ ?_;rintro i _ ⟨t,rfl,t0,t1,t7,t8,hi,hq⟩
 rcases Nat.lt_or_ge i xs.length with hlt | hge
 ·obtain ⟨x,hDx,hm,hg,hd,hix,hw,hc⟩:=aW (k:=1) (fun x h=>tu_int.len (hD x h)) hx hl hlt
  rw [hd,cC]at hq
  have hpf:=fun {d:Option AV}=>tu_int.pf (hD x hDx) (d:=d)
  have he:=fun {low:Nat}=>BS (g:=g) (cap:=cap) (p:=p) (L:=[]) hDx (hS1 (low:=low))
  cases hp:p x with
  | true=>
    rw [hp,if_pos rfl]at hq;simp +contextual +decide (maxSteps:=1000000) only [↓ wP,wQ,tf,wS,t0,t1,t7,t8,hs.idx,hix,hc,hpf,he,hp,hq,Nat.le_refl]
  | false=>
    rw [hp,if_neg (by decide)]at hq;simp +contextual +decide (maxSteps:=1000000) only [↓ wP,wQ,tf,wS,t0,t1,t7,t8,hs.idx,hix,hc,hpf,he,hp,hw];exact ⟨i+1,by show _-_<_-_;omega,_,rfl,by simp +decide only [↓ aB,t0],by simp +decide only [↓ aB,t1],by simp +decide only [↓ aB,t7],by simp +decide only [↓ aB],hlt,hq⟩
 ·obtain rfl:i=xs.length:=Nat.le_antisymm hi hge
  rw [List.drop_length,cC]at hq;simp +contextual +decide (maxSteps:=1000000) only [↓ wP,wQ,wS,t7,t8,aS,hq,Nat.le_refl]
theorem DX (hS:∀ s s',Sim s s'->S s->S s') (hD:∀ x,D x->cL x) (h:∀ x,D x->∀ s,S s->bW Tryz.prog g (x::cap) s (.ret (.bool (p x)) none)) {a:AV} (ha:TSl D a) (s:Sto) (hs0:S s):
 bW Tryz.prog 275 [a,.func (.func g) [] cap] s (.ret (.bool (a.els.any p)) none):=by
 refine mX (L:=[entB 330 (fun args s=>args=[a,.func (.func g) [] cap]/\S s) fun _=>.int .i64 (cC p a.els 0)]) (elist_cons (entB_ok fun args s ⟨e,hs⟩=>by subst e;exact QO hS hD h ha s hs) aF) aH (by kernel_rfl) Tryz.func275 Tryz.ntmps275 Tryz.results275 rfl rfl aG ?_;have hS1:∀ {low:Nat},S ⟨s.n,low,s.o⟩:=hS _ _ DW hs0;obtain ⟨n0,low0,o0⟩:=s
 have he:=fun {low:Nat}=>bQ (f:=330) (D:=fun args s=>args=[a,.func (.func g) [] cap]/\S s) (g:=fun _=>.int .i64 (cC p a.els 0)) (L:=[]) ⟨rfl,hS1 (low:=low)⟩
 simp +contextual +decide (maxSteps:=1000000) only [↓ wP,wQ,wS,he,Nat.le_refl];rw [gL]
theorem aAx (hD:∀ x,D x->cL x) (h:∀ x,D x->∀ s,S s->bW Tryz.prog g (x::cap) s (.ret (.bool (p x)) none)) (hS:∀ s s',Sim s s'->S s->S s') (c:Nat) (x:AV) (hx:D x) (s:Sto) (hs0:S s) (hc:s.get c=some (bF 0 [.func (.func g) [] cap])):
 bW Tryz.prog 283 (x::[.ptr c 0 0]) s (.ret (.bool (!p x)) none):=by
 refine mX (L:=[aAw g cap D S p]) (elist_cons (OK h) aF) aH (by kernel_rfl) Tryz.func283 Tryz.ntmps283 Tryz.results283 rfl rfl aG ?_;have hS1:∀ {low:Nat},S ⟨s.n,low,s.o⟩:=hS _ _ DW hs0;obtain ⟨n0,low0,o0⟩:=s;have hcn:c<n0:=Sto.get_lt hc;rw [Sto.get_mk hcn]at hc;have f0:=cP hcn
 have he:=fun {low:Nat}=>BS (g:=g) (cap:=cap) (p:=p) (L:=[]) hx (hS1 (low:=low))
 simp +contextual +decide (maxSteps:=1000000) only [↓ wP,wQ,tf,wS,he,hc,f0,Nat.le_refl]
theorem aAy (hS:∀ s s',Sim s s'->S s->S s') (hD:∀ x,D x->cL x) (h:∀ x,D x->∀ s,S s->bW Tryz.prog g (x::cap) s (.ret (.bool (p x)) none)) {a:AV} (ha:TSl D a) (s:Sto) (hs0:S s):
 bW Tryz.prog 235 [a,.func (.func g) [] cap] s (.ret (.bool (a.els.all p)) none):=by
 have hS':∀ u u',Sim u u'->(S u/\u.get s.n=some (bF 0 [.func (.func g) [] cap]))->(S u'/\u'.get s.n=some (bF 0 [.func (.func g) [] cap])):=fun u u' hu ⟨h1,h2⟩=>⟨hS u u' hu h1,hu.get h2⟩
 have hc:=fun u (hu:S u/\u.get s.n=some (bF 0 [.func (.func g) [] cap]))=>DX (g:=283) (cap:=[.ptr s.n 0 0]) (D:=D) (p:=fun x=>!p x) hS' hD (fun x hx u hu=>aAx hD h hS s.n x hx u hu.1 hu.2) ha u hu
 have hS1:∀ {low low':Nat},S ⟨s.n+1,low',s.o.set s.n (bF 0 [.func (.func g) [] cap])⟩:=fun {low low'}=>hS ⟨s.n,low,s.o⟩ _ aAv (hS _ _ DW hs0)
 have hcell:=ha;obtain ⟨xs,hsl,_⟩:=hcell;obtain ⟨n0,low0,o0⟩:=s;refine mX (L:=[entB 275 (fun args u=>args=[a,.func (.func 283) [] [.ptr n0 0 0]]/\(S u/\u.get n0=some (bF 0 [.func (.func g) [] cap]))) fun _=>.bool (a.els.any fun x=>!p x)]) (elist_cons (entB_ok fun args u ⟨e,hu⟩=>by subst e;exact hc u hu) aF) aH (by kernel_rfl) Tryz.func235 Tryz.ntmps235 Tryz.results235 rfl rfl aG ?_
 have he:=fun {low:Nat}=>bQ (f:=275) (D:=fun args u=>args=[a,.func (.func 283) [] [.ptr n0 0 0]]/\(S u/\u.get n0=some (bF 0 [.func (.func g) [] cap]))) (g:=fun _=>.bool (a.els.any fun x=>!p x)) (L:=[]) (s:=⟨n0+1,low,o0.set n0 (bF 0 [.func (.func g) [] cap])⟩) ⟨rfl,hS1 (low:=0),by rw [Sto.get_mk (by omega),Tr.get_set_same]⟩
 simp +contextual +decide (maxSteps:=1000000) only [↓ wP,wQ,wS,he,Nat.le_refl];rw [<-List.not_all_eq_any_not,Bool.not_not]
def Acc1 (u:Sto) (c:Nat) (k:Nat) (l:List AV):Prop:=∃ v,u.get c=some (bF 0 [v])/\(l=[]/\v=.nils∨l≠[]/\∃ id g,v=.sl id g 0 l.length (.room 1)/\u.get id=some (bF g l)/\k<id)
theorem Acc1.sim {l':Nat} {u u':Sto} {c k:Nat} {l:List AV} (h:SimX l' u u') (hc:c≠l') (hk:l'<=k) (ha:Acc1 u c k l):Acc1 u' c k l:=by
 obtain ⟨v,h1,h2⟩:=ha;refine ⟨v,h.get h1 hc,?_⟩
 rcases h2 with h2 | ⟨h0,id,g,rfl,h3,h4⟩
 ·exact .inl h2
 ·exact .inr ⟨h0,id,g,rfl,h.get h3 (by omega),h4⟩
theorem Acc1.new {u:Sto} {c k id g m:Nat} {l:List AV} (h1:u.get c=some (bF 0 [.sl id g 0 m (.room 1)])) (h2:u.get id=some (bF g l)) (hm:m=l.length) (hl:l≠[]) (hk:k<id):Acc1 u c k l:=
 ⟨_,h1,.inr ⟨hl,id,g,by rw [hm],h2,hk⟩⟩
theorem Acc1.nil {u:Sto} {c k:Nat} (h1:u.get c=some (bF 0 [.nils])):Acc1 u c k []:=⟨_,h1,.inl ⟨rfl,rfl⟩⟩
def fF (n:Nat):List AV:=(List.range n).map fun i=>.int .i64 (i:Nat)
def mY (n:Nat):AV:=if n=0 then .nils else .fz (fF n) false
theorem vB (n:Nat):(fF n).length=n:=by simp [fF]
theorem yU (n:Nat):fF (n+1)=fF n++[.int .i64 (n:Nat)]:=by simp [fF,List.range_succ]
theorem qR (n:Nat):∀ x∈fF n,cL x:=fun x hx=>by obtain ⟨i,_,rfl⟩:=List.mem_map.1 hx;exact ⟨_,rfl⟩
theorem yV {n:Nat} (h:n<=9223372036854775807):Sl (mY n) (fF n):=by
 unfold mY;split
 ·rename_i h0;subst h0;exact ⟨.inl ⟨rfl,rfl⟩,Nat.zero_le _⟩
 ·exact ⟨.inr ⟨false,rfl⟩,by rw [vB];exact h⟩
def tP (n:Nat):List (List AV):=(List.range n).map fun i=>[.int .i64 (i:Nat)]
abbrev wD (n:Nat):AV:=.func (.func 284) [] [.pf (.int .i64 (n:Nat))]
theorem BT (n:Nat):UnderE 0 (wD n):=bV (by intro x hx;cases hx) (by intro x hx;simp at hx;subst hx;exact ⟨2,rfl⟩)
theorem LJ (n:Nat):Abs.Returns Tryz.prog 236 [.int .i64 (n:Nat)] (wD n):=by
 refine dQ (L:=[]) aF aH (by kernel_rfl) Tryz.func236 Tryz.ntmps236 Tryz.results236 rfl rfl (aA aP aD) ?_;simp +contextual +decide (maxSteps:=1000000) only [↓ wP,wQ,Nat.reduceAdd,wS];exact cA (cs:=[.int .i64 (n:Nat)]) rfl rfl (aA aP aD)
set_option maxHeartbeats 1000000 in
theorem DY (m:Nat) (hm:m<9223372036854775807) {O:Orc} (h62:∀ a σ,O 284 a σ=none):aIq Tryz.prog O (wD m) (tP m):=by
 intro l J D X σ hl hJs hDs hXs hJ0 hr
 have hrow:(tP m).length=m:=by simp [tP]
 refine qT (h62 _ _) (by kernel_rfl) Tryz.func284 rfl (Wk.sound (H:=aH) ?_);rw [hrow];show Wk _ _ _ _ ⟨13,none,284,Tr.leaf.lay 0 [.func (.yield l) [] [],.pf (.int .i64 (m:Nat))],[],⟨σ.n,σ.n,σ.o⟩,.no⟩ _;simp +contextual +decide (maxSteps:=1000000) only [↓ wP,wQ,tf]
 refine aO (fun i e=>∃ t u,e=⟨13,none,284,t,[],u,.no⟩/\t.val 0=.func (.yield l) [] []/\t.val 4=.int .i64 (m:Nat)/\t.val 5=.int .i64 (i:Nat)/\i<=m/\l<u.n/\J i u/\(i=0∨u.low<=l)) (fun i=>m-i) 0
  ⟨_,_,rfl,by simp +decide only [↓ aB,bR,aY],by simp +decide only [↓ aB],by simp +decide only [↓ aB];rfl,Nat.zero_le _,hl,hJs _ _ _ (Sim.low σ σ.n) hJ0,.inl rfl⟩ ?_
 rintro i _ ⟨t,⟨n,low,o⟩,rfl,h0,h4,h5,hi,hln,hJ,hlow⟩;by_cases hlt:i<m
 ·have d1:(((i:Nat):Int)<((m:Nat):Int))=True:=eq_true (by omega)
  have d5:IntKind.i64.wrap ((i:Int)+1)=((i+1:Nat):Int):=by rw [IntWalk.i64_in _ (by omega)];rfl
  simp +contextual +decide (maxSteps:=1000000) only [↓ wP,wQ,wS,h0,h4,h5,d1];have hcall:=hr i [.int .i64 (i:Nat)] (by simp [tP,hlt]) ⟨n,low,o⟩ hln hJ
  refine hcall.mono fun res hk=>?_
  have hk':rK l J D X i ⟨n,low,o⟩ res:=hk;clear hk hcall
  cases res with
  | pan v so=>
    rw [LV];have k:(so.getD ⟨n,low,o⟩).low<=l/\X v (so.getD ⟨n,low,o⟩):=hk';generalize so.getD ⟨n,low,o⟩=u at *;simp +contextual +decide (maxSteps:=1000000) only [↓ wP,wQ];exact WV rfl (lF _ _ _ (X v) (hXs v) k.2 (.inl (Nat.lt_of_le_of_lt k.1 hl)))
  | ret v so=>
    rw [vF]
    have k:(v=.bool true/\(so.getD ⟨n,low,o⟩).low<=l/\l<(so.getD ⟨n,low,o⟩).n/\J (i+1) (so.getD ⟨n,low,o⟩))∨(v=.bool false/\(so.getD ⟨n,low,o⟩).low<=l/\D (so.getD ⟨n,low,o⟩)):=by
     cases v with
     | bool b=>cases b with
       | true=>exact .inl ⟨rfl,hk'⟩
       | false=>exact .inr ⟨rfl,hk'⟩
     | _=>exact hk'.elim
    generalize so.getD ⟨n,low,o⟩=u at *
    rcases k with ⟨rfl,k1,k0,k2⟩ | ⟨rfl,k1,k2⟩
    ·simp +contextual +decide (maxSteps:=1000000) only [↓ wP,wQ,wS,h5,d5]
     exact ⟨i+1,by show _-_<_-_;omega,_,_,rfl,by simp +decide only [↓ aB,h0],by simp +decide only [↓ aB,h4],by simp +decide only [↓ aB],hlt,k0,k2,.inr k1⟩
    ·simp +contextual +decide (maxSteps:=1000000) only [↓ wP,wQ]
     exact oC rfl (vs:=[]) rfl (.inr (lF _ _ _ D hDs k2 (.inl (Nat.lt_of_le_of_lt k1 hl))))
 ·have d1:(((i:Nat):Int)<((m:Nat):Int))=False:=eq_false (by omega)
  simp +contextual +decide (maxSteps:=1000000) only [↓ wP,wQ,wS,h4,h5,d1]
  have hic:i=m:=by omega
  refine oC rfl (vs:=[]) rfl (.inl (lF _ _ _ (J m) (hJs _) (hic ▸ hJ) ?_))
  rcases hlow with h | h
  ·refine .inr ?_
   rw [<-hic,h];exact hJ0
  ·exact .inl (Nat.lt_of_le_of_lt h hl)
set_option maxHeartbeats 4000000 in
theorem DZ (m:Nat) (hm:m<=1000):Abs.Returns Tryz.prog 155 [.nils,wD m] (mY m):=by
 refine LQ (L:=[]) aF aH (by kernel_rfl) Tryz.func155 Tryz.ntmps155 Tryz.results155 rfl rfl (aA jS (aA (BT m).und aD)) ?_
 have hrow:(tP m).length=m:=by simp [tP]
 simp +contextual +decide (maxSteps:=1000000) only [↓ wP,wQ,Nat.reduceAdd,ne_eq];refine aBq (xs:=tP m) (fun i u=>Acc1 u 0 2 (fF i)) (fun _ _=>False) (fun _ _=>False) ?_ (fun i u u' h ha=>Acc1.sim h (by decide) (by decide) ha) (fun _ _ _ _ h=>h) (fun _ _ _ _ h=>h) (fun _ _ h=>h.elim) ⟨.nils,rfl,.inl ⟨rfl,rfl⟩⟩ ?_ ?_ (fun _ _ _ h=>h.elim) (fun _ _ _ _ h=>h.elim) (fun _ _ h=>h.elim)
 ·simp +decide only [↓ aB]
  exact DY m (by omega) fun a u=>rfl
 ·rintro i x hx ⟨n,low,o⟩ hn hg1 hg2 ⟨v,hv,hacc⟩
  have hi:i<m:=by
   have:=(List.getElem?_eq_some_iff.1 hx).1
   simpa [tP] using this
  have hx':x=[.int .i64 (i:Nat)]:=by
   simp [tP,hi]at hx;exact hx.symm
  subst hx';have hn':2<n:=hn;have f0:=cP (i:=0) (n:=n) (by omega);have f1:=cP (i:=1) (n:=n) (by omega);have f2:=cP (i:=2) (n:=n) (by omega);simp +decide only [Sto.get_mk,f0,f1,f2,Nat.reduceAdd]at hg1 hg2 hv
  have hsmall:(2*((fF i).length+1)+1024)*8<=281474976710656/\(fF i).length+1<4611686018427387904:=by rw [vB];omega
  refine ⟨_,rfl,?_⟩
  rcases hacc with ⟨hl,rfl⟩ | ⟨hl,id,g,rfl,hid,hk⟩
  ·simp +contextual +decide (maxSteps:=1000000) only [↓ wP,wQ,EL,tf,Nat.reduceAdd,Nat.reduceMul,f0,f1,f2,gT,hg1,hg2,hv,sO,sN,Env.setS,ne_eq]
   rw [yU,hl];refine Acc1.new (id:=n+1) (g:=0) (m:=1) ?_ ?_ rfl (by simp) (by omega)
   ·exact by simp +decide only [↓ aB,kG,f0]
   ·exact by simp +decide only [↓ aB,kG,aY,ne_eq,f0,gT]
  ·have hidn:id<n:=Sto.get_lt hid
   rw [Sto.get_mk hidn]at hid;have f3:=cP hidn
   have f4:id≠2/\2≠id/\id≠0/\0≠id/\id≠1/\1≠id:=⟨by omega,by omega,by omega,by omega,by omega,by omega⟩
   simp +contextual +decide (maxSteps:=1000000) only [↓ wP,wQ,EL,tf,Nat.reduceAdd,Nat.mul_one,Nat.zero_add,f0,f1,f2,f3,f4,gT,hg1,hg2,hv,hid,hsmall,sO,sN,Env.setS,ne_eq];rw [yU];refine Acc1.new (id:=id) (g:=g+1) (m:=(fF i).length+1) ?_ ?_ (by simp) (by simp) hk
   ·exact by simp +decide only [↓ aB,kG,f0]
   ·exact by simp +decide only [↓ aB,kG,aY,ne_eq,f3,f4]
 ·rintro ⟨n,low,o⟩ hn hg1 ⟨v,hv,hacc⟩
  have hn':2<n:=hn;have f0:=cP (i:=0) (n:=n) (by omega);have f1:=cP (i:=1) (n:=n) (by omega);have f2:=cP (i:=2) (n:=n) (by omega);rw [hrow]at hacc;simp +decide only [Sto.get_mk,f0,f1]at hg1 hv;simp +contextual +decide (maxSteps:=1000000) only [↓ wP,wQ,EL,tf,f0,f1,gT,hg1,hv,ne_eq]
  rcases hacc with ⟨hl,rfl⟩ | ⟨hl,id,g,rfl,hid,hk⟩
  ·have h0:m=0:=by rw [<-vB m,hl];rfl
   rw [mY,if_pos h0];exact .und _ jS
  ·have h0:m≠0:=fun h=>hl (by subst h;rfl)
   rw [mY,if_neg h0];have hid':=Sto.get_lt hid;rw [Sto.get_mk hid']at hid
   refine sP (g:=g) (cs:=fF m) (Nat.zero_le _) ?_ rfl (by simp) (fun x hx=>(tu_int x (qR m x hx)).2) fun j x y hx hy=>?_
   ·rw [Sto.get_mk hid',Tr.get_set_ne _ _ (by omega)];exact hid
   ·rw [Nat.zero_add]at hx
    rw [hx]at hy;cases hy;exact .und _ (tu_int x (qR m x (List.mem_of_getElem? hx))).1.und
theorem LK (m:Nat) (hm:m<=1000):Abs.Returns Tryz.prog 105 [wD m] (mY m):=by
 refine aE (L:=[oB 155 [.nils,wD m] (mY m)]) (elist_cons (eD (DZ m hm)) aF) aH (by kernel_rfl) Tryz.func105 Tryz.ntmps105 Tryz.results105 rfl rfl (aA (BT m).und aD) (bO (yV (by omega)) fun x hx=>(tu_int x (qR m x hx)).1).und ?_;simp +contextual +decide (maxSteps:=1000000) only [↓ wP,wQ,wS,cY]
end
end Go.Proofs.YtifmdaalhclhgaaGreat
