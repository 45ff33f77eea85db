/-
  The reference of meanings: worlds as they are defined.
-/
import Derived.Test.YtifmdaalhclhgaaGreatNk
set_option linter.unusedVariables false
set_option linter.unusedSimpArgs false
namespace Go.Proofs.YtifmdaalhclhgaaGreat
open Go.Abs Go Go.Abs.TryzF
noncomputable section
set_option maxRecDepth 10000
def jD (most:Int) (xs:List AV):Bool:=decide ((xs.length:Int)<=most)&&xs.all fun x=>oZ x.num
abbrev SC:List AV->Option AV:=nP (fun a b=>dE a/\cA b) fun a b=>.bool (jD b.num a.els)
theorem rInts_ok:Abs.Ok Tryz.prog 79 SC:=ok2 fun a b ⟨ha,hb⟩=>by
 obtain ⟨most,rfl⟩:=hb;have hua:=(aL a ha).1;obtain ⟨xs,hs,hxs⟩:=ha;have hl:=hs.2;refine aF (L:=[ent 80 gP]) (elist_cons rIn6_ok.ent aD) aN (by kernel_rfl) Tryz.func79 Tryz.ntmps79 Tryz.results79 rfl rfl (aA hua.und (aA aT aC)) aJ ?_;rw [hs.els,show (AV.int .i64 most).num=most from rfl];refine GY ?_;refine aQ (fun i e=>∃ t n low o,e=⟨27,none,79,t,[],⟨n,low,o⟩,.no⟩/\t.val 0=a/\t.val 1=.int .i64 most/\t.val 5=.int .i64 (i:Nat)/\0<=n/\i<=xs.length/\jD most xs=(decide ((xs.length:Int)<=most)&&(xs.drop i).all fun x=>oZ x.num)) (fun i=>xs.length-i) 0 ⟨_,_,_,_,rfl,aG,aG,eP,aE,Nat.zero_le _,rfl⟩ ?_;rintro i _ ⟨t,n,low,o,rfl,t0,t1,t5,hn,hi,hq⟩
 rcases Nat.lt_or_ge i xs.length with hlt | hge
 ·obtain ⟨y,hDy,hm,hg,hd,hix,hw,hc⟩:=aZ (fun x h=>tu_int.len h) hxs hl hlt
  rw [hd,List.all_cons]at hq
  have hpf:=fun {d:Option AV}=>tu_int.pf hDy (d:=d)
  obtain ⟨z,rfl⟩:=hDy;by_cases km:((i:Nat):Int)<=most
  ·cases hp:oZ z with
   | false=>
     rw [show (AV.int .i64 z).num=z from rfl,hp,Bool.false_and,Bool.and_false]at hq;have hp':inR z (-1000000000) 1000000000=false:=hp;exact vO @t0 @t1 @t5 hs.lX hs.iX @hix @hc @hpf @km @aI @hp' @hq
   | true=>
     rw [show (AV.int .i64 z).num=z from rfl,hp,Bool.true_and]at hq;have hp':inR z (-1000000000) 1000000000=true:=hp;refine sG @t0 @t1 @t5 hs.lX hs.iX @hix @hc @hpf @km @aI @hp' @hw ?_;exact ⟨i+1,by show _-_<_-_;omega,_,_,_,_,rfl,aP @t0,aP @t1,aG,aE,hlt,hq⟩
  ·have hgt:(((xs.length:Nat):Int)<=most)=False:=eq_false aE
   rw [decide_eq_false (fun h=>(hgt ▸ h:False)),Bool.false_and]at hq;exact az8 @t0 @t1 @t5 hs.lX @hc @km @hgt @hq
 ·obtain rfl:i=xs.length:=Nat.le_antisymm hi hge
  rw [List.drop_length,List.all_nil,Bool.and_true]at hq;exact SK @t0 @t1 @t5 hs.lX @aW @hq
abbrev xG:List AV->Option AV:=nP (fun a b=>dE a/\cA b) fun a b=>.bool (a.els.any fun x=>decide (x.num=b.num))
theorem rlisted_ok:Abs.Ok Tryz.prog 125 xG:=ok2 fun a b ⟨ha,hb⟩=>by
 obtain ⟨m,rfl⟩:=hb;have hua:=(aL a ha).1;obtain ⟨xs,hs,hxs⟩:=ha;have hl:=hs.2;refine aF (L:=[]) aD aN (by kernel_rfl) Tryz.func125 Tryz.ntmps125 Tryz.results125 rfl rfl (aA hua.und (aA aT aC)) aJ ?_;rw [hs.els,show (AV.int .i64 m).num=m from rfl];refine GY ?_;refine aQ (fun i e=>∃ t n low o,e=⟨18,none,125,t,[],⟨n,low,o⟩,.no⟩/\t.val 0=a/\t.val 1=.int .i64 m/\t.val 5=.int .i64 (i:Nat)/\0<=n/\i<=xs.length/\(xs.any fun x=>decide (x.num=m))=((xs.drop i).any fun x=>decide (x.num=m))) (fun i=>xs.length-i) 0 ⟨_,_,_,_,rfl,aG,aG,eP,aE,Nat.zero_le _,rfl⟩ ?_;rintro i _ ⟨t,n,low,o,rfl,t0,t1,t5,hn,hi,hq⟩
 rcases Nat.lt_or_ge i xs.length with hlt | hge
 ·obtain ⟨y,hDy,hm,hg,hd,hix,hw,hc⟩:=aZ (fun x h=>tu_int.len h) hxs hl hlt
  rw [hd,List.any_cons]at hq
  have hpf:=fun {d:Option AV}=>tu_int.pf hDy (d:=d)
  obtain ⟨z,rfl⟩:=hDy;by_cases hz:z=m
  ·rw [show (AV.int .i64 z).num=z from rfl,decide_eq_true hz,Bool.true_or]at hq
   exact az9 @t0 @t1 @t5 hs.lX hs.iX @hix @hc @hz @hq
  ·rw [show (AV.int .i64 z).num=z from rfl,decide_eq_false hz,Bool.false_or]at hq
   refine BC @t0 @t1 @t5 hs.lX hs.iX @hix @hc @hpf @hz @hw ?_;exact ⟨i+1,by show _-_<_-_;omega,_,_,_,_,rfl,aP @t0,aP @t1,aG,aE,hlt,hq⟩
 ·obtain rfl:i=xs.length:=Nat.le_antisymm hi hge
  rw [List.drop_length,List.any_nil]at hq;exact DO @t0 @t5 hs.lX @aW @hq
def mP (os:List AV):List AV->List AV->Bool
 | _,[]=>true
 | pre,x::l=>iM os x.num && !(pre.any fun y=>decide (y.num=x.num))&&mP os (pre++[x]) l
def iG (os ts:List AV):Bool:=decide ((ts.length:Int)=(dH os:Nat))&&mP os [] ts
theorem MW {xs:List AV} {x:AV} {i:Nat} (h:xs[i]?=some x):dH (xs.take (i+1))=dH (xs.take i)+(if (x.fld 0).num=6 then 1 else 0):=by
 rw [List.take_add_one,h,dH,dH,List.filter_append,List.length_append];by_cases h6:(x.fld 0).num=6<;>simp [h6]
theorem pY (xs:List AV) (i:Nat):dH xs=dH (xs.take i)+dH (xs.drop i):=by rw [dH,dH,dH,<-List.length_append,<-List.filter_append,List.take_append_drop]
theorem YL (xs:List AV):dH xs<=xs.length:=List.length_filter_le _ _
abbrev IY:List AV->Option AV:=rE tO fun w=>.bool (iG (w.fld 0).els (w.fld 1).els)
set_option maxHeartbeats 4000000 in
theorem rtasks_ok:Abs.Ok Tryz.prog 81 IY:=wD fun w hw=>by
 have huw:=(tk_wd w hw).1;obtain ⟨os,ts,us,is,uu,rfl,ho,ht,hu,hi,hv⟩:=hw;have c1:=(cD _ ho).2;have c2:=(aL _ ht).2;have c3:=(bJ _ hu).2;have c4:=(aL _ hi).2;have c5:=(tu_int _ hv).2;obtain ⟨xs,hs,hxs⟩:=ho;obtain ⟨ys,hy,hys⟩:=ht;have hl:=hs.2;have hly:=hy.2;have w1:=cB hs.2;refine aF (L:=[ent 80 gP,ent 125 xG]) (elist_cons rIn6_ok.ent (elist_cons rlisted_ok.ent aD)) aN (by kernel_rfl) Tryz.func81 Tryz.ntmps81 Tryz.results81 rfl rfl (aA huw.und aC) aJ ?_;show Wk _ _ _ _ _ (iA _ _ (fun _ r=>r=.bool (iG os.els ts.els)) _);rw [hs.els,hy.els];refine VV @c1 @c2 @c3 @c4 @c5 ?_;refine aQ (fun i e=>∃ t n low o,e=⟨62,none,81,t,[],⟨n,low,o⟩,.no⟩/\t.val 1=.ptr 0 0 0/\t.val 3=.int .i64 ((dH (xs.take i):Nat):Int)/\t.val 4=.int .i64 (i:Nat)/\o.get 0=some (aY 0 [os,ts,us,is,uu])/\1<=n/\i<=xs.length/\dH xs=dH (xs.take i)+dH (xs.drop i)) (fun i=>xs.length-i) 0 ⟨_,_,_,_,rfl,aG,eP,eP,aG,aE,Nat.zero_le _,pY _ _⟩ ?_;rintro i _ ⟨t,n,low,o,rfl,t1,t3,t4,g0,hn,hi,hq⟩;have f0:=bT (show 0<n by omega)
 rcases Nat.lt_or_ge i xs.length with hlt | hge
 ·obtain ⟨y,hDy,hm,hg,hd,hix,hw,hc⟩:=aZ (fun x h=>tk_ob.len h) hxs hl hlt
  have hpf:=fun {d:Option AV}=>tk_ob.pf hDy (d:=d)
  have hT:=MW hg;have hle:=YL (xs.take i);rw [List.length_take]at hle;obtain ⟨_,_,v,g,rfl,⟨k,rfl⟩,⟨m,rfl⟩,hv',hg'⟩:=hDy;have cv:=(aH _ hv').2;have cg:=(bN _ hg').2
  have hw2:IntKind.i64.wrap (((dH (xs.take i):Nat):Int)+1)=((dH (xs.take i)+1:Nat):Int):=by rw [IntWalk.i64_in _ aE];rfl
  by_cases k6:k=6
  ·rw [show ((AV.agg [.int .i64 k,.int .i64 m,v,g]).fld 0).num=k from rfl,if_pos k6]at hT
   refine sG @t1 @t3 @t4 @g0 @f0 hs.lX hs.iX @hix @hc @k6 @hw @hw2 ?_;exact ⟨i+1,by show _-_<_-_;omega,_,_,_,_,rfl,aP @t1,aP @hT,aG,by simp +decide only [g0],aE,hlt,pY _ _⟩
  ·rw [show ((AV.agg [.int .i64 k,.int .i64 m,v,g]).fld 0).num=k from rfl,if_neg k6]at hT
   simp only [Nat.add_zero]at hT;refine BC @t1 @t4 @g0 @f0 hs.lX hs.iX @hix @hc @k6 @hw ?_;exact ⟨i+1,by show _-_<_-_;omega,_,_,_,_,rfl,aP @t1,av2 @t3 @hT,aG,by simp +decide only [g0],aE,hlt,pY _ _⟩
 ·obtain rfl:i=xs.length:=Nat.le_antisymm hi hge
  rw [List.take_length]at t3;clear hq
  by_cases k1:((ys.length:Nat):Int)=((dH xs:Nat):Int)
  ·have hyl:ys.length=dH xs:=by omega
   have hspec:iG xs ys=mP xs [] ys:=by rw [iG,decide_eq_true k1,Bool.true_and]
   rw [hspec];refine ap9 @t1 @t3 @t4 @g0 @f0 hs.lX @aW hy.lX @k1 ?_;refine aQ (fun i e=>∃ t n low o,e=⟨62,none,81,t,[],⟨n,low,o⟩,.no⟩/\t.val 1=.ptr 0 0 0/\t.val 3=.int .i64 ((dH xs:Nat):Int)/\t.val 5=.int .i64 (i:Nat)/\o.get 0=some (aY 0 [os,ts,us,is,uu])/\1<=n/\i<=ys.length/\mP xs [] ys=mP xs (ys.take i) (ys.drop i)) (fun i=>ys.length-i) 0 ⟨_,_,_,_,rfl,aP @t1,aP @t3,eP,by simp +decide only [g0],aE,Nat.zero_le _,rfl⟩ ?_;rintro i _ ⟨t,n,low,o,rfl,t1,t3,t5,g0,hn,hi,hq⟩;have f0:=bT (show 0<n by omega)
   rcases Nat.lt_or_ge i ys.length with hlt | hge
   ·obtain ⟨y,hDy,hm,hg,hd,hix,hw,hc⟩:=aZ (fun x h=>tu_int.len h) hys hly hlt
    have hpf:=fun {d:Option AV}=>tu_int.pf hDy (d:=d)
    have hc':(((i:Nat):Int)<((dH xs:Nat):Int))=True:=eq_true aE;obtain ⟨b,hb,hsl⟩:=hy.upto (k:=1) (fun x hm=>tu_int.len (hys x hm)) (n:=((i:Nat):Int)) aE aE;rw [Int.toNat_natCast]at hb
    have htk:ys.take (i+1)=ys.take i++[y]:=by rw [List.take_add_one,hg];rfl
    obtain ⟨z,rfl⟩:=hDy
    have hli:xG [b,.int .i64 z]=some (.bool ((ys.take i).any fun x=>decide (x.num=z))):=by
     rw [xG,sg2_eq ⟨⟨_,hb,fun x hx=>hys x (List.mem_of_mem_take hx)⟩,_,rfl⟩,hb.els];rfl
    rw [hd,mP,show (AV.int .i64 z).num=z from rfl,<-htk]at hq
    cases k2:inR z 0 ((xs.length:Int)-1) with
    | false=>
      rw [iM,k2,Bool.false_and,Bool.false_and,Bool.false_and]at hq;exact xK @t1 @t3 @t5 @g0 @f0 hs.lX hy.iX @hix @hc' @hpf @w1 @aI @k2 @hq
    | true=>
      obtain ⟨o',hDo,_,ho',hix2,hpf2,_,_⟩:=mQ tk_ob hxs k2;obtain ⟨_,_,v,g,rfl,⟨k,rfl⟩,⟨m,rfl⟩,hv',hg'⟩:=hDo;have cv:=(aH _ hv').2;have cg:=(bN _ hg').2
      have hit:iM xs z=decide (k=6):=by rw [iM,k2,Bool.true_and,ho'];rfl
      rw [hit]at hq;by_cases k6:k=6
      ·rw [decide_eq_true k6,Bool.true_and]at hq
       cases k3:(ys.take i).any fun x=>decide (x.num=z) with
       | true=>
         rw [k3,Bool.not_true,Bool.false_and]at hq;exact YQ @t1 @t3 @t5 @g0 @f0 hs.lX hs.iX hy.iX @hix @hix2 @hc' @hpf @w1 @aI @k2 @k6 @hsl @hli @k3 @hq
       | false=>
         rw [k3,Bool.not_false,Bool.true_and]at hq;refine aKf @t1 @t3 @t5 @g0 @f0 hs.lX hs.iX hy.iX @hix @hix2 @hc' @hpf @w1 @aI @k2 @k6 @hsl @hli @k3 @hw ?_;exact ⟨i+1,by show _-_<_-_;omega,_,_,_,_,rfl,aP @t1,aP @t3,aG,by simp +decide only [g0],aE,hlt,hq⟩
      ·rw [decide_eq_false k6,Bool.false_and,Bool.false_and]at hq
       exact aEs @t1 @t3 @t5 @g0 @f0 hs.lX hs.iX hy.iX @hix @hix2 @hc' @hpf @w1 @aI @k2 @k6 @hq
   ·obtain rfl:i=ys.length:=Nat.le_antisymm hi hge
    have hc':(((ys.length:Nat):Int)<((dH xs:Nat):Int))=False:=eq_false aE;rw [List.drop_length,mP]at hq;exact az4 @t3 @t5 @hc' @hq
  ·refine ap9 @t1 @t3 @t4 @g0 @f0 hs.lX @aW hy.lX @k1 ?_
   rw [iG,decide_eq_false k1];rfl
def SD (ns cs:List AV) (nf no:Int) (o:AV):Bool:=lA ns cs nf no (o.fld 0).num (o.fld 1).num (o.fld 2).els (o.fld 3).els
def nO (ns cs:List AV) (nf:Int) (os ts us is:List AV) (n:Int):Bool:=
 decide ((os.length:Int)<=120)&&(decide ((us.length:Int)<=100)&&(jD 50 is&&(inR n 0 1000000000&&(iG os ts&&(os.all (SD ns cs nf os.length)&&us.all zI)))))
theorem aEe {a b:AV} (ha:fY a) (hb:tO b):∃ ns fs mm cs os ts us is uu,a=pg ns fs mm cs/\b=wd os ts us is uu/\RW ns fs mm cs os ts us is uu:=by
 obtain ⟨_,_,_,_,rfl,a1,a2,a3,a4⟩:=ha;obtain ⟨_,_,_,_,_,rfl,b1,b2,b3,b4,b5⟩:=hb;exact ⟨_,_,_,_,_,_,_,_,_,rfl,rfl,a1,a2,a3,a4,b1,b2,b3,b4,b5⟩
abbrev IZ:List AV->Option AV:=nP (fun a b=>fY a/\tO b) fun a b=>.bool (nO (a.fld 0).els (a.fld 3).els (a.fld 1).els.length (b.fld 0).els (b.fld 1).els (b.fld 2).els (b.fld 3).els (b.fld 4).num)
set_option maxHeartbeats 8000000 in
theorem rWorld_ok:Abs.Ok Tryz.prog 42 IZ:=ok2 fun a b ⟨ha,hb⟩=>by
 obtain ⟨ns,fs,mm,cs,os,ts,us,is,uu,rfl,rfl,h⟩:=aEe ha hb;obtain ⟨c1,c2,c3,c4,c5,c6,c7,c8,c9⟩:=h.cells;obtain ⟨m,hm⟩:=h.uu;have hi0:SC [is,.int .i64 50]=some (.bool (jD 50 is.els)):=sg2_eq ⟨h.is,_,rfl⟩;have ht0:IY [wd os ts us is uu]=some (.bool (iG os.els ts.els)):=bX h.wd;obtain ⟨xo,ho,hxo⟩:=h.os;obtain ⟨xu,hu,hxu⟩:=h.us
 refine aF (L:=[ent 80 gP,ent 79 SC,ent 81 IY,ent 82 (aPj (pg ns fs mm cs) (wd os ts us is uu) ns.els cs.els fs.els.length os.els.length)]) (elist_cons rIn6_ok.ent (elist_cons rInts_ok.ent (elist_cons rtasks_ok.ent (elist_cons (SI h).ent aD))))
  (fun r=>(bif Nat.beq r 6 then [7] else [],[])) (by kernel_rfl) Tryz.func42 Tryz.ntmps42 Tryz.results42 rfl rfl (aA (dM _ h.pg).1.und (aA (tk_wd _ h.wd).1.und aC)) aJ ?_
 subst hm;show Wk _ _ _ _ _ (iA _ _ (fun _ r=>r=.bool (nO ns.els cs.els fs.els.length os.els ts.els us.els is.els m)) _);have hsp:nO ns.els cs.els fs.els.length os.els ts.els us.els is.els m=(decide ((os.els.length:Int)<=120)&&(decide ((us.els.length:Int)<=100)&&(jD 50 is.els&&(inR m 0 1000000000&&(iG os.els ts.els&&(os.els.all (SD ns.els cs.els fs.els.length os.els.length)&&us.els.all zI)))))):=rfl;generalize nO ns.els cs.els fs.els.length os.els ts.els us.els is.els m=W at *;rw [ho.els,hu.els]at hsp;have hlo:=ho.2;have hlu:=hu.2;by_cases k1:((xo.length:Nat):Int) > 120
 ·rw [decide_eq_false (show ¬ ((xo.length:Nat):Int)<=120 by omega),Bool.false_and]at hsp
  exact vO @c1 @c2 @c3 @c4 @c5 @c6 @c7 @c8 @c9 ho.lX @k1 @hsp
 by_cases k2:((xu.length:Nat):Int) > 100
 ·rw [decide_eq_false (show ¬ ((xu.length:Nat):Int)<=100 by omega),Bool.false_and,Bool.and_false]at hsp
  exact xK @c1 @c2 @c3 @c4 @c5 @c6 @c7 @c8 @c9 ho.lX hu.lX @k1 @k2 @hsp
 rw [decide_eq_true (show ((xo.length:Nat):Int)<=120 by omega),Bool.true_and,decide_eq_true (show ((xu.length:Nat):Int)<=100 by omega),Bool.true_and]at hsp
 cases k3:jD 50 is.els with
 | false=>
   rw [k3,Bool.false_and]at hsp;exact aKg @c1 @c2 @c3 @c4 @c5 @c6 @c7 @c8 @c9 ho.lX hu.lX @k1 @k2 @hi0 @k3 @hsp
 | true=>
 rw [k3,Bool.true_and]at hsp
 cases k4:inR m 0 1000000000 with
 | false=>
   rw [k4,Bool.false_and]at hsp;exact SL @c1 @c2 @c3 @c4 @c5 @c6 @c7 @c8 @c9 ho.lX hu.lX @k1 @k2 @hi0 @k3 @aI @k4 @hsp
 | true=>
 rw [k4,Bool.true_and]at hsp
 cases k5:iG os.els ts.els with
 | false=>
   rw [<-ho.els,k5,Bool.false_and]at hsp;exact YQ @c1 @c2 @c3 @c4 @c5 @c6 @c7 @c8 @c9 ho.lX hu.lX @k1 @k2 @hi0 @k3 @aI @k4 @ht0 @k5 @hsp
 | true=>
 rw [<-ho.els,k5,Bool.true_and,ho.els]at hsp;refine aKe @c1 @c2 @c3 @c4 @c5 @c6 @c7 @c8 @c9 ho.lX hu.lX @k1 @k2 @hi0 @k3 @aI @k4 @ht0 @k5 ?_;refine aQ (fun i e=>∃ t n low o,e=⟨75,none,42,t,[],⟨n,low,o⟩,.no⟩/\t.val 2=.ptr 0 0 0/\t.val 3=.ptr 1 0 0/\t.val 5=.int .i64 (i:Nat)/\o.get 0=some (aY 0 [ns,fs,mm,cs])/\o.get 1=some (aY 0 [os,ts,us,is,.int .i64 m])/\2<=n/\i<=xo.length/\W=((xo.drop i).all (SD ns.els cs.els fs.els.length xo.length)&&xu.all zI)) (fun i=>xo.length-i) 0 ⟨_,_,_,_,rfl,aG,aG,eP,lS,aG,aE,Nat.zero_le _,hsp⟩ ?_;rintro i _ ⟨t,n,low,o,rfl,t2,t3,t5,g0,g1,hn,hi,hq⟩;have f0:=bT (show 0<n by omega);have f1:=bT (show 1<n by omega)
 rcases Nat.lt_or_ge i xo.length with hlt | hge
 ·obtain ⟨y,hDy,hm,hg,hd,hix,hw,hc⟩:=aZ (fun x h=>tk_ob.len h) hxo hlo hlt
  rw [hd,List.all_cons,Bool.and_assoc]at hq
  have hpf:=fun {d:Option AV}=>tk_ob.pf hDy (d:=d)
  have hv:aPj (pg ns fs mm cs) (wd os ts us is (.int .i64 m)) ns.els cs.els fs.els.length os.els.length [pg ns fs mm cs,wd os ts us is (.int .i64 m),y]=some (.bool (SD ns.els cs.els fs.els.length os.els.length y)):=gR ⟨rfl,rfl,hDy⟩;rw [<-ho.els]at hq
  cases hp:SD ns.els cs.els fs.els.length os.els.length y with
  | false=>
    rw [hp,Bool.false_and]at hq;exact NG @t2 @t3 @t5 @g0 @g1 @f0 @f1 ho.lX ho.iX @hix @hc @hpf @hv @hp @hq
  | true=>
    rw [hp,Bool.true_and]at hq;refine JG @t2 @t3 @t5 @g0 @g1 @f0 @f1 ho.lX ho.iX @hix @hc @hpf @hv @hp @hw ?_;rw [ho.els]at hq;exact ⟨i+1,by show _-_<_-_;omega,_,_,_,_,rfl,aP @t2,aP @t3,aG,by simp +decide only [g0],by simp +decide only [g1],aE,hlt,hq⟩
 ·obtain rfl:i=xo.length:=Nat.le_antisymm hi hge
  rw [List.drop_length,List.all_nil,Bool.true_and]at hq;refine ap6 @t3 @t5 @g1 @f1 ho.lX @aW ?_;have hq':=hq;clear hq;refine aQ (fun i e=>∃ t n low o,e=⟨75,none,42,t,[],⟨n,low,o⟩,.no⟩/\t.val 2=.ptr 0 0 0/\t.val 3=.ptr 1 0 0/\t.val 6=.int .i64 (i:Nat)/\o.get 0=some (aY 0 [ns,fs,mm,cs])/\o.get 1=some (aY 0 [os,ts,us,is,.int .i64 m])/\2<=n/\i<=xu.length/\W=(xu.drop i).all zI) (fun i=>xu.length-i) 0 ⟨_,_,_,_,rfl,aP @t2,aP @t3,eP,by simp +decide only [g0],by simp +decide only [g1],aE,Nat.zero_le _,hq'⟩ ?_;rintro i _ ⟨t,n,low,o,rfl,t2,t3,t6,g0,g1,hn,hi,hq⟩;have f0:=bT (show 0<n by omega);have f1:=bT (show 1<n by omega)
  rcases Nat.lt_or_ge i xu.length with hlt | hge
  ·obtain ⟨y,hDy,hm,hg,hd,hix,hw,hc⟩:=aZ (fun x h=>tk_out.len h) hxu hlu hlt
   rw [hd,List.all_cons]at hq;obtain ⟨_,_,rfl,⟨p,rfl⟩,⟨v,rfl⟩⟩:=hDy;have he:zI (.agg [.int .i64 p,.int .i64 v])=(inR p 0 3&&inR v (-1000000000) 1000000000):=rfl;rw [he]at hq
   cases k6:inR p 0 3 with
   | false=>
     rw [k6,Bool.false_and,Bool.false_and]at hq;exact NF @t3 @t6 @g1 @f1 hu.lX hu.iX @hix @hc @aI @k6 @hq
   | true=>
     cases k7:inR v (-1000000000) 1000000000 with
     | false=>
       rw [k6,k7,Bool.and_false,Bool.false_and]at hq;exact vO @t3 @t6 @g1 @f1 hu.lX hu.iX @hix @hc @aI @k6 @k7 @hq
     | true=>
       rw [k6,k7,Bool.and_true,Bool.true_and]at hq;refine sG @t3 @t6 @g1 @f1 hu.lX hu.iX @hix @hc @aI @k6 @k7 @hw ?_;exact ⟨i+1,by show _-_<_-_;omega,_,_,_,_,rfl,aP @t2,aP @t3,aG,by simp +decide only [g0],by simp +decide only [g1],aE,hlt,hq⟩
  ·obtain rfl:i=xu.length:=Nat.le_antisymm hi hge
   rw [List.drop_length,List.all_nil]at hq;exact PX @t3 @t6 @g1 @f1 hu.lX @aW @hq
end
end Go.Proofs.YtifmdaalhclhgaaGreat
/-
 Calls that read the store: whether something is so of all numbers of a list,by a function that reads what its maker keeps.
-/
namespace Go.Abs
noncomputable section
variable {P:Program}
theorem oW {L:List lL} (hL:∀ x∈L,cP P x) (H:dG) {f:FuncId} {fn:Func} {c:Code} {N:Nat} {rs:List ResultVar} {args:List AV} {v:AV} {s:Sto} (hok:okFn P f=true) (hf:P.funcs[f]?=some fn) (hn:fn.ntmps=N) (hr:fn.results=rs.toArray) (hb:fn.body=some c)
 (ha:Nat.ble args.length N=true) (hv:Und s.n v)
 (h:Wk P (bK L) H c ⟨N,none,f,Tr.leaf.lay 0 args,[],⟨s.n,s.n,s.o⟩,.no⟩ (iA P rs (fun S r=>s.n<=S.low/\r=v) fun _ _=>False)):bV P f args s (.ret v none):=by
 refine TB (lV hL) hok hf hb hv ?_;rw [jI hn ha,show fn.results.toList=rs by rw [hr]];exact h.sound
theorem aJw {n low low':Nat} {o:Tr AObj} {x:AObj}:Sim ⟨n,low,o⟩ ⟨n+1,low',o.set n x⟩:=⟨Nat.le_succ _,fun id hid=>by
 have hid':id<n:=hid
 rw [Sto.get_mk hid',Sto.get_mk aE,Tr.get_set_ne _ _ aE]⟩
theorem JA {s:Sto} {low:Nat}:Sim s ⟨s.n,low,s.o⟩:=⟨Nat.le_refl _,fun _ _=>rfl⟩
end
end Go.Abs
namespace Go.Proofs.YtifmdaalhclhgaaGreat
open Go.Abs Go Go.Abs.TryzF
noncomputable section
set_option maxRecDepth 10000
abbrev aJx (g:FuncId) (cap:List AV) (D:AV->Prop) (S:Sto->Prop) (p:AV->Bool):lL:=entB g (fun args s=>(∃ x,D x/\args=x::cap)/\S s) fun args=>.bool (p (args.headD .top))
theorem VS {g:FuncId} {cap:List AV} {D:AV->Prop} {S:Sto->Prop} {p:AV->Bool} (h:∀ x,D x->∀ s,S s->bV Tryz.prog g (x::cap) s (.ret (.bool (p x)) none)):cP Tryz.prog (aJx g cap D S p):=
 entB_ok fun args s ⟨⟨x,hx,e⟩,hs⟩=>by subst e;exact h x hx s hs
theorem GT {g:FuncId} {cap:List AV} {D:AV->Prop} {S:Sto->Prop} {p:AV->Bool} {L:List lL} {x:AV} {s:Sto} (hx:D x) (hs:S s):bK (aJx g cap D S p::L) g (x::cap) s=some (.ret (.bool (p x)) none):=eQ ⟨⟨x,hx,rfl⟩,hs⟩
variable {g:FuncId} {cap:List AV} {D:AV->Prop} {S:Sto->Prop} {p:AV->Bool}
theorem YM (hS:∀ s s',Sim s s'->S s->S s') (hD:∀ x,D x->cA x) (h:∀ x,D x->∀ s,S s->bV Tryz.prog g (x::cap) s (.ret (.bool (p x)) none)) {a:AV} (ha:TSl D a) (s:Sto) (hs0:S s):
 bV Tryz.prog 330 [a,.func (.func g) [] cap] s (.ret (.int .i64 (sH p a.els 0)) none):=by
 obtain ⟨xs,hs,hx⟩:=ha;have hl:=hs.2;refine oW (L:=[aJx g cap D S p]) (elist_cons (VS h) aD) aN (by kernel_rfl) Tryz.func330 Tryz.ntmps330 Tryz.results330 rfl rfl aT ?_;have hS1:∀ {low:Nat},S ⟨s.n,low,s.o⟩:=hS _ _ JA hs0;obtain ⟨n0,low0,o0⟩:=s;have hS1:∀ {low:Nat},S ⟨n0,low,o0⟩:=hS1;rw [hs.els];refine FJ hs.lX ?_;refine aQ (fun i e=>∃ t,e=⟨19,none,330,t,[],⟨n0,n0,o0⟩,.no⟩/\t.val 0=a/\t.val 1=.func (.func g) [] cap/\t.val 7=.int .i64 (xs.length:Nat)/\t.val 8=.int .i64 (i:Nat)/\i<=xs.length/\sH p xs 0=sH p (xs.drop i) i) (fun i=>xs.length-i) 0 ⟨_,rfl,aG,aG,aG,eP,Nat.zero_le _,rfl⟩ ?_;rintro i _ ⟨t,rfl,t0,t1,t7,t8,hi,hq⟩
 rcases Nat.lt_or_ge i xs.length with hlt | hge
 ·obtain ⟨x,hDx,hm,hg,hd,hix,hw,hc⟩:=aZ (k:=1) (fun x h=>tu_int.len (hD x h)) hx hl hlt
  rw [hd,sH]at hq
  have hpf:=fun {d:Option AV}=>tu_int.pf (hD x hDx) (d:=d)
  have he:=fun {low:Nat}=>GT (g:=g) (cap:=cap) (p:=p) (L:=[]) hDx (hS1 (low:=low))
  cases hp:p x with
  | true=>
    rw [hp,if_pos rfl]at hq;exact vO @t0 @t1 @t7 @t8 hs.iX @hix @hc @hpf @he @hp @hq @Nat.le_refl
  | false=>
    rw [hp,if_neg (by decide)]at hq;refine NB @t0 @t1 @t7 @t8 hs.iX @hix @hc @hpf @he @hp @hw ?_;exact ⟨i+1,by show _-_<_-_;omega,_,rfl,aP @t0,aP @t1,aP @t7,aG,hlt,hq⟩
 ·obtain rfl:i=xs.length:=Nat.le_antisymm hi hge
  rw [List.drop_length,sH]at hq;exact DO @t7 @t8 @aW @hq @Nat.le_refl
theorem JB (hS:∀ s s',Sim s s'->S s->S s') (hD:∀ x,D x->cA x) (h:∀ x,D x->∀ s,S s->bV Tryz.prog g (x::cap) s (.ret (.bool (p x)) none)) {a:AV} (ha:TSl D a) (s:Sto) (hs0:S s):
 bV Tryz.prog 275 [a,.func (.func g) [] cap] s (.ret (.bool (a.els.any p)) none):=by
 refine oW (L:=[entB 330 (fun args s=>args=[a,.func (.func g) [] cap]/\S s) fun _=>.int .i64 (sH p a.els 0)]) (elist_cons (entB_ok fun args s ⟨e,hs⟩=>by subst e;exact YM hS hD h ha s hs) aD) aN (by kernel_rfl) Tryz.func275 Tryz.ntmps275 Tryz.results275 rfl rfl aJ ?_;have hS1:∀ {low:Nat},S ⟨s.n,low,s.o⟩:=hS _ _ JA hs0;obtain ⟨n0,low0,o0⟩:=s
 have he:=fun {low:Nat}=>eQ (f:=330) (D:=fun args s=>args=[a,.func (.func g) [] cap]/\S s) (g:=fun _=>.int .i64 (sH p a.els 0)) (L:=[]) ⟨rfl,hS1 (low:=low)⟩
 refine ap2 @he @Nat.le_refl ?_;rw [DQ]
theorem aJy (hD:∀ x,D x->cA x) (h:∀ x,D x->∀ s,S s->bV Tryz.prog g (x::cap) s (.ret (.bool (p x)) none)) (hS:∀ s s',Sim s s'->S s->S s') (c:Nat) (x:AV) (hx:D x) (s:Sto) (hs0:S s) (hc:s.get c=some (aY 0 [.func (.func g) [] cap])):
 bV Tryz.prog 283 (x::[.ptr c 0 0]) s (.ret (.bool (!p x)) none):=by
 refine oW (L:=[aJx g cap D S p]) (elist_cons (VS h) aD) aN (by kernel_rfl) Tryz.func283 Tryz.ntmps283 Tryz.results283 rfl rfl aJ ?_;have hS1:∀ {low:Nat},S ⟨s.n,low,s.o⟩:=hS _ _ JA hs0;obtain ⟨n0,low0,o0⟩:=s;have hcn:c<n0:=Sto.get_lt hc;rw [Sto.get_mk hcn]at hc;have f0:=bT hcn
 have he:=fun {low:Nat}=>GT (g:=g) (cap:=cap) (p:=p) (L:=[]) hx (hS1 (low:=low))
 exact az4 @he @hc @f0 @Nat.le_refl
theorem aJz (hS:∀ s s',Sim s s'->S s->S s') (hD:∀ x,D x->cA x) (h:∀ x,D x->∀ s,S s->bV Tryz.prog g (x::cap) s (.ret (.bool (p x)) none)) {a:AV} (ha:TSl D a) (s:Sto) (hs0:S s):
 bV Tryz.prog 235 [a,.func (.func g) [] cap] s (.ret (.bool (a.els.all p)) none):=by
 have hS':∀ u u',Sim u u'->(S u/\u.get s.n=some (aY 0 [.func (.func g) [] cap]))->(S u'/\u'.get s.n=some (aY 0 [.func (.func g) [] cap])):=fun u u' hu ⟨h1,h2⟩=>⟨hS u u' hu h1,hu.get h2⟩
 have hc:=fun u (hu:S u/\u.get s.n=some (aY 0 [.func (.func g) [] cap]))=>JB (g:=283) (cap:=[.ptr s.n 0 0]) (D:=D) (p:=fun x=>!p x) hS' hD (fun x hx u hu=>aJy hD h hS s.n x hx u hu.1 hu.2) ha u hu
 have hS1:∀ {low low':Nat},S ⟨s.n+1,low',s.o.set s.n (aY 0 [.func (.func g) [] cap])⟩:=fun {low low'}=>hS ⟨s.n,low,s.o⟩ _ aJw (hS _ _ JA hs0)
 have hcell:=ha;obtain ⟨xs,hsl,_⟩:=hcell;obtain ⟨n0,low0,o0⟩:=s;refine oW (L:=[entB 275 (fun args u=>args=[a,.func (.func 283) [] [.ptr n0 0 0]]/\(S u/\u.get n0=some (aY 0 [.func (.func g) [] cap]))) fun _=>.bool (a.els.any fun x=>!p x)]) (elist_cons (entB_ok fun args u ⟨e,hu⟩=>by subst e;exact hc u hu) aD) aN (by kernel_rfl) Tryz.func235 Tryz.ntmps235 Tryz.results235 rfl rfl aJ ?_
 have he:=fun {low:Nat}=>eQ (f:=275) (D:=fun args u=>args=[a,.func (.func 283) [] [.ptr n0 0 0]]/\(S u/\u.get n0=some (aY 0 [.func (.func g) [] cap]))) (g:=fun _=>.bool (a.els.any fun x=>!p x)) (L:=[]) (s:=⟨n0+1,low,o0.set n0 (aY 0 [.func (.func g) [] cap])⟩) ⟨rfl,hS1 (low:=0),by rw [Sto.get_mk aE,Tr.get_set_same]⟩
 refine ap2 @he @Nat.le_refl ?_;rw [<-List.not_all_eq_any_not,Bool.not_not]
def Acc1 (u:Sto) (c:Nat) (k:Nat) (l:List AV):Prop:=∃ v,u.get c=some (aY 0 [v])/\(l=[]/\v=.nils∨l≠[]/\∃ id g,v=.sl id g 0 l.length (.room 1)/\u.get id=some (aY g l)/\k<id)
theorem Acc1.sim {l':Nat} {u u':Sto} {c k:Nat} {l:List AV} (h:SimX l' u u') (hc:c≠l') (hk:l'<=k) (ha:Acc1 u c k l):Acc1 u' c k l:=by
 obtain ⟨v,h1,h2⟩:=ha;refine ⟨v,h.get h1 hc,?_⟩
 rcases h2 with h2 | ⟨h0,id,g,rfl,h3,h4⟩
 ·exact .inl h2
 ·exact .inr ⟨h0,id,g,rfl,h.get h3 aE,h4⟩
theorem Acc1.new {u:Sto} {c k id g m:Nat} {l:List AV} (h1:u.get c=some (aY 0 [.sl id g 0 m (.room 1)])) (h2:u.get id=some (aY g l)) (hm:m=l.length) (hl:l≠[]) (hk:k<id):Acc1 u c k l:=
 ⟨_,h1,.inr ⟨hl,id,g,by rw [hm],h2,hk⟩⟩
theorem Acc1.nil {u:Sto} {c k:Nat} (h1:u.get c=some (aY 0 [.nils])):Acc1 u c k []:=⟨_,h1,.inl ⟨rfl,rfl⟩⟩
def fV (n:Nat):List AV:=(List.range n).map fun i=>.int .i64 (i:Nat)
def oX (n:Nat):AV:=if n=0 then .nils else .fz (fV n) false
theorem zH (n:Nat):(fV n).length=n:=by simp [fV]
theorem DG (n:Nat):fV (n+1)=fV n++[.int .i64 (n:Nat)]:=by simp [fV,List.range_succ]
theorem tL (n:Nat):∀ x∈fV n,cA x:=fun x hx=>by obtain ⟨i,_,rfl⟩:=List.mem_map.1 hx;exact ⟨_,rfl⟩
theorem DH {n:Nat} (h:n<=9223372036854775807):Sl (oX n) (fV n):=by
 unfold oX;split
 ·rename_i h0;subst h0;exact ⟨.inl ⟨rfl,rfl⟩,Nat.zero_le _⟩
 ·exact ⟨.inr ⟨false,rfl⟩,by rw [zH];exact h⟩
def xH (n:Nat):List (List AV):=(List.range n).map fun i=>[.int .i64 (i:Nat)]
abbrev AI (n:Nat):AV:=.func (.func 284) [] [.pf (.int .i64 (n:Nat))]
theorem GU (n:Nat):UnderE 0 (AI n):=fC (by intro x hx;cases hx) (by intro x hx;simp at hx;subst hx;exact ⟨2,rfl⟩)
theorem SE (n:Nat):Abs.Returns Tryz.prog 236 [.int .i64 (n:Nat)] (AI n):=by
 refine bP (L:=[]) aD aN (by kernel_rfl) Tryz.func236 Tryz.ntmps236 Tryz.results236 rfl rfl (aA aT aC) ?_;refine GY ?_;exact lT (cs:=[.int .i64 (n:Nat)]) rfl rfl (aA aT aC)
set_option maxHeartbeats 1000000 in
theorem JC (m:Nat) (hm:m<9223372036854775807) {O:Orc} (h62:∀ a σ,O 284 a σ=none):aTb Tryz.prog O (AI m) (xH m):=by
 intro l J D X σ hl hJs hDs hXs hJ0 hr
 have hrow:(xH m).length=m:=by simp [xH]
 refine tU (h62 _ _) (by kernel_rfl) Tryz.func284 rfl (Wk.sound (H:=aN) ?_);rw [hrow];show Wk _ _ _ _ ⟨13,none,284,Tr.leaf.lay 0 [.func (.yield l) [] [],.pf (.int .i64 (m:Nat))],[],⟨σ.n,σ.n,σ.o⟩,.no⟩ _;refine GY ?_
 refine aQ (fun i e=>∃ t u,e=⟨13,none,284,t,[],u,.no⟩/\t.val 0=.func (.yield l) [] []/\t.val 4=.int .i64 (m:Nat)/\t.val 5=.int .i64 (i:Nat)/\i<=m/\l<u.n/\J i u/\(i=0∨u.low<=l)) (fun i=>m-i) 0
  ⟨_,_,rfl,aG,aG,eP,Nat.zero_le _,hl,hJs _ _ _ (Sim.low σ σ.n) hJ0,.inl rfl⟩ ?_
 rintro i _ ⟨t,⟨n,low,o⟩,rfl,h0,h4,h5,hi,hln,hJ,hlow⟩;by_cases hlt:i<m
 ·have d1:(((i:Nat):Int)<((m:Nat):Int))=True:=eq_true aE
  have d5:IntKind.i64.wrap ((i:Int)+1)=((i+1:Nat):Int):=by rw [IntWalk.i64_in _ aE];rfl
  refine NA @h0 @h4 @h5 @d1 ?_;have hcall:=hr i [.int .i64 (i:Nat)] (by simp [xH,hlt]) ⟨n,low,o⟩ hln hJ
  refine hcall.mono fun res hk=>?_
  have hk':rK l J D X i ⟨n,low,o⟩ res:=hk;clear hk hcall
  cases res with
  | pan v so=>
    rw [SS];have k:(so.getD ⟨n,low,o⟩).low<=l/\X v (so.getD ⟨n,low,o⟩):=hk';generalize so.getD ⟨n,low,o⟩=u at *;refine GY ?_;exact aFs rfl (mT _ _ _ (X v) (hXs v) k.2 (.inl (Nat.lt_of_le_of_lt k.1 hl)))
  | ret v so=>
    rw [zL]
    have k:(v=.bool true/\(so.getD ⟨n,low,o⟩).low<=l/\l<(so.getD ⟨n,low,o⟩).n/\J (i+1) (so.getD ⟨n,low,o⟩))∨(v=.bool false/\(so.getD ⟨n,low,o⟩).low<=l/\D (so.getD ⟨n,low,o⟩)):=by
     cases v with
     | bool b=>cases b with
       | true=>exact .inl ⟨rfl,hk'⟩
       | false=>exact .inr ⟨rfl,hk'⟩
     | _=>exact hk'.elim
    generalize so.getD ⟨n,low,o⟩=u at *
    rcases k with ⟨rfl,k1,k0,k2⟩ | ⟨rfl,k1,k2⟩
    ·refine ap2 @h5 @d5 ?_
     exact ⟨i+1,by show _-_<_-_;omega,_,_,rfl,aP @h0,aP @h4,aG,hlt,k0,k2,.inr k1⟩
    ·refine GY ?_
     exact oF rfl (vs:=[]) rfl (.inr (mT _ _ _ D hDs k2 (.inl (Nat.lt_of_le_of_lt k1 hl))))
 ·have d1:(((i:Nat):Int)<((m:Nat):Int))=False:=eq_false aE
  refine yQ @h4 @h5 @d1 ?_
  have hic:i=m:=by omega
  refine oF rfl (vs:=[]) rfl (.inl (mT _ _ _ (J m) (hJs _) (hic ▸ hJ) ?_))
  rcases hlow with h | h
  ·refine .inr ?_
   rw [<-hic,h];exact hJ0
  ·exact .inl (Nat.lt_of_le_of_lt h hl)
set_option maxHeartbeats 4000000 in
theorem JD (m:Nat) (hm:m<=1000):Abs.Returns Tryz.prog 155 [.nils,AI m] (oX m):=by
 refine SO (L:=[]) aD aN (by kernel_rfl) Tryz.func155 Tryz.ntmps155 Tryz.results155 rfl rfl (aA dJ (aA (GU m).und aC)) ?_
 have hrow:(xH m).length=m:=by simp [xH]
 refine GY ?_;refine aKw (xs:=xH m) (fun i u=>Acc1 u 0 2 (fV i)) (fun _ _=>False) (fun _ _=>False) ?_ (fun i u u' h ha=>Acc1.sim h (by decide) (by decide) ha) (fun _ _ _ _ h=>h) (fun _ _ _ _ h=>h) (fun _ _ h=>h.elim) ⟨.nils,rfl,.inl ⟨rfl,rfl⟩⟩ ?_ ?_ (fun _ _ _ h=>h.elim) (fun _ _ _ _ h=>h.elim) (fun _ _ h=>h.elim)
 ·simp +decide only [↓ mU]
  exact JC m aE fun a u=>rfl
 ·rintro i x hx ⟨n,low,o⟩ hn hg1 hg2 ⟨v,hv,hacc⟩
  have hi:i<m:=by
   have:=(List.getElem?_eq_some_iff.1 hx).1
   simpa [xH] using this
  have hx':x=[.int .i64 (i:Nat)]:=by
   simp [xH,hi]at hx;exact hx.symm
  subst hx';have hn':2<n:=hn;have f0:=bT (i:=0) (n:=n) aE;have f1:=bT (i:=1) (n:=n) aE;have f2:=bT (i:=2) (n:=n) aE;simp +decide only [Sto.get_mk,f0,f1,f2,Nat.reduceAdd]at hg1 hg2 hv
  have hsmall:(2*((fV i).length+1)+1024)*8<=281474976710656/\(fV i).length+1<4611686018427387904:=by rw [zH];omega
  refine ⟨_,rfl,?_⟩
  rcases hacc with ⟨hl,rfl⟩ | ⟨hl,id,g,rfl,hid,hk⟩
  ·simp +contextual +decide (maxSteps:=1000000) only [↓ wP,wQ,JU,tf,Nat.reduceAdd,Nat.reduceMul,f0,f1,f2,cT,hg1,hg2,hv,vS,vR,Env.setS,ne_eq]
   rw [DG,hl];refine Acc1.new (id:=n+1) (g:=0) (m:=1) ?_ ?_ rfl (by simp) aE
   ·exact rB @f0
   ·exact iY @f0 @cT
  ·have hidn:id<n:=Sto.get_lt hid
   rw [Sto.get_mk hidn]at hid;have f3:=bT hidn
   have f4:id≠2/\2≠id/\id≠0/\0≠id/\id≠1/\1≠id:=⟨aE,aE,aE,aE,aE,aE⟩
   simp +contextual +decide (maxSteps:=1000000) only [↓ wP,wQ,JU,tf,Nat.reduceAdd,Nat.mul_one,Nat.zero_add,f0,f1,f2,f3,f4,cT,hg1,hg2,hv,hid,hsmall,vS,vR,Env.setS,ne_eq];rw [DG];refine Acc1.new (id:=id) (g:=g+1) (m:=(fV i).length+1) ?_ ?_ (by simp) (by simp) hk
   ·exact rB @f0
   ·exact iY @f3 @f4
 ·rintro ⟨n,low,o⟩ hn hg1 ⟨v,hv,hacc⟩
  have hn':2<n:=hn;have f0:=bT (i:=0) (n:=n) aE;have f1:=bT (i:=1) (n:=n) aE;have f2:=bT (i:=2) (n:=n) aE;rw [hrow]at hacc;simp +decide only [Sto.get_mk,f0,f1]at hg1 hv;refine ap6 @JU @f0 @f1 @cT @hg1 @hv ?_
  rcases hacc with ⟨hl,rfl⟩ | ⟨hl,id,g,rfl,hid,hk⟩
  ·have h0:m=0:=by rw [<-zH m,hl];rfl
   rw [oX,if_pos h0];exact .und _ dJ
  ·have h0:m≠0:=fun h=>hl (by subst h;rfl)
   rw [oX,if_neg h0];have hid':=Sto.get_lt hid;rw [Sto.get_mk hid']at hid
   refine lC (g:=g) (cs:=fV m) (Nat.zero_le _) ?_ rfl (by simp) (fun x hx=>(tu_int x (tL m x hx)).2) fun j x y hx hy=>?_
   ·rw [Sto.get_mk hid',Tr.get_set_ne _ _ aE];exact hid
   ·rw [Nat.zero_add]at hx
    rw [hx]at hy;cases hy;exact .und _ (tu_int x (tL m x (List.mem_of_getElem? hx))).1.und
theorem SF (m:Nat) (hm:m<=1000):Abs.Returns Tryz.prog 105 [AI m] (oX m):=by
 refine aF (L:=[zK 155 [.nils,AI m] (oX m)]) (elist_cons (jF (JD m hm)) aD) aN (by kernel_rfl) Tryz.func105 Tryz.ntmps105 Tryz.results105 rfl rfl (aA (GU m).und aC) (DZ (DH aE) fun x hx=>(tu_int x (tL m x hx)).1).und ?_;exact tN @gJ
end
end Go.Proofs.YtifmdaalhclhgaaGreat
