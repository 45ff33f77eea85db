/-
  The reference of programs: programs as they are defined.
-/
import Derived.Test.YtdipddlhenoglaaGreatOe
set_option linter.unusedVariables false
set_option linter.unusedSimpArgs false
namespace Go.Proofs.YtdipddlhenoglaaGreat
open Go.Abs Go Go.Abs.TryzF
noncomputable section
set_option maxRecDepth 10000
def kL (n:Nat) (L:List Int):List AV:=(List.range n).map fun i:Nat=>.bool (decide (((i:Nat):Int)∈L))
theorem xR {n:Nat} {L:List Int}:(kL n L).length=n:=by simp [kL]
theorem KW {n:Nat} {L:List Int} {f:Int} (b:0<=f) (c:f<n):(kL n L)[f.toNat]?=some (.bool (decide (f∈L))):=by
 have:f.toNat<n:=by omega
 have a:((f.toNat:Nat):Int)=f:=by omega
 simp [kL,this,a]
theorem OV {n:Nat} {L:List Int} {f:Int} (h:0<=f) (k:f<n):(kL n L).set f.toNat (.bool true)=kL n (L++[f]):=by
 apply List.ext_getElem?;intro i;rw [List.getElem?_set];simp only [kL,List.length_map,List.length_range,List.getElem?_map];by_cases c:f.toNat=i
 ·subst c
  have d:f.toNat<n:=by omega
  have e:((f.toNat:Nat):Int)=f:=by omega
  simp [d,e]
 ·rw [if_neg c]
  by_cases a:i<n
  ·have b:¬ (i:Int)=f:=by omega
   simp [a,b]
  ·simp [a]
theorem OW {n:Nat}:cQ [.bool false] n=kL n []:=by
 have h:∀ m,kL m []=List.replicate m (.bool false):=fun m=>by
  simp only [kL,List.not_mem_nil,decide_false]
  exact List.ext_getElem (by simp) fun i b c=>by simp
 induction n with
 | zero=>rfl
 | succ n a=>
   rw [cQ,a,h,h,List.replicate_succ];rfl
theorem aAs {n:Nat} {L:List Int}:∀ x∈kL n L,aHs x:=fun x a=>by obtain ⟨i,_,rfl⟩:=List.mem_map.1 a;exact ⟨_,rfl⟩
theorem aLu:msK Tryz.prog 83=some (1,1,[.bool false]):=by kernel_rfl
theorem lK {O:cH} {lo c:Operand} {e:Env} {K:ORes->Prop} {n:Nat} (u:n<=1000) (l:e.eval lo=.int .i64 (n:Nat)) (k:e.eval c=.int .i64 (n:Nat)):
 fW Tryz.prog O (.makeSlice 83 lo c) e K↔K (.val' (.sl e.s.n 0 0 n (.is n)) (e.s.push (aQ 0 (kL n [])))):=by
 have h:=vR (O:=O) (e:=e) (K:=fun r=>r=.val' (.sl e.s.n 0 0 n (.is n)) (e.s.push (aQ 0 (kL n [])))) aLu l k (Nat.le_refl n) aC aC (by rw [OW];exact List.all_eq_true.2 fun x o=>(aNa x (aAs x o)).2) (by rw [OW];rfl);obtain ⟨m,r,d,f⟩:=h;constructor
 ·rintro ⟨q,v,a,b⟩
  have:fC Tryz.prog (aR Tryz.prog O q) (.makeSlice 83 lo c) e=fC Tryz.prog (aR Tryz.prog O m) (.makeSlice 83 lo c) e:=rfl;rw [this,d]at a;cases a;rw [f]at b;exact b
 ·intro h;exact ⟨m,r,d,by rw [f];exact h⟩
def xS (N:Nat) (lo:Int):List Int->List Int->Bool
 | _,[]=>true
 | L,k::l=>(inR k lo ((N:Int)-1) && !decide (k∈L))&&xS N lo (L++[k]) l
def isT:AV->Bool
 | .bool b=>b
 | _=>false
def mA (N:Nat) (a:Int) (cs:List AV):List Int->Nat->List AV->Bool
 | L,_,[]=>(kL N L).all isT
 | L,i,x::l=>sV a cs x&&(xS N ((i:Int)+1) L (bT x)&&mA N a cs (L++bT x) (i+1) l)
def nM (ns fs:List AV) (mm:Int) (cs:List AV):Bool:=
 decide ((ns.length:Int)<=300)&&(inR fs.length 1 ns.length&&(inR mm 0 ((fs.length:Int)-1)&&(sY cs&&(xS ns.length 0 [] (fs.map AV.num)&&mA ns.length fs.length cs (fs.map AV.num) 0 ns))))
abbrev TM:List AV->Option AV:=wX (fun a b=>dD a/\eL b) fun a b=>.bool (sV (a.fld 1).els.length (a.fld 3).els b)
theorem rnodeV_ok:Abs.Ok Tryz.prog 130 TM:=ok2 fun a b ⟨⟨ns,fs,mm,cs,e,c,d,f,h⟩,k⟩=>by
 subst e;exact aFz ⟨c,d,f,h⟩ b k
section
variable {ns fs mm cs:AV}
set_option maxHeartbeats 16000000 in
theorem TN (h:PG ns fs mm cs) (hcl:cs.els.length<=1000):Abs.Returns Tryz.prog 85 [pg ns fs mm cs] (.bool (nM ns.els fs.els mm.num cs.els)):=by
 obtain ⟨c1,c2,c3,c4⟩:=h.cells;have hpg:=h;have m1:TU [cs]=some (.bool (sY cs.els)):=cR ⟨h.cs,hcl⟩
 have m2:∀ {x:AV},eL x->TM [pg ns fs mm cs,x]=some (.bool (sV fs.els.length cs.els x)):=fun hx=>sg2_eq ⟨⟨_,_,_,_,rfl,h.ns,h.fs,h.mm,h.cs⟩,hx⟩
 obtain ⟨M,hM⟩:=h.mm;refine aF (L:=[ent 128 gH,ent 129 TU,ent 130 TM]) (elist_cons rIn5_ok.ent (elist_cons rcons_ok.ent (elist_cons rnodeV_ok.ent aE))) (fun r=>(bif Nat.beq r 14 then [6] else [],[])) (by kernel_rfl) Tryz.func85 Tryz.ntmps85 Tryz.results85 rfl rfl (aA h.und.und aD) aJ ?_;subst hM;have hsp:nM ns.els fs.els (AV.int .i64 M).num cs.els=(decide ((ns.els.length:Int)<=300)&&(inR fs.els.length 1 ns.els.length&&(inR M 0 ((fs.els.length:Int)-1)&&(sY cs.els&&(xS ns.els.length 0 [] (fs.els.map AV.num)&&mA ns.els.length fs.els.length cs.els (fs.els.map AV.num) 0 ns.els))))):=rfl;generalize nM ns.els fs.els (AV.int .i64 M).num cs.els=W at *;obtain ⟨xn,hn0,hnx⟩:=h.ns;obtain ⟨xf,hf0,hfx⟩:=h.fs;obtain ⟨xc,hc0,hcx⟩:=h.cs;have en:=hn0.els;have ef:=hf0.els;have ec:=hc0.els;have w1:=bY hf0.2;have w2:=bY hn0.2;rw [en,ef,ec]at hsp;rw [ec]at m1;rw [ef,ec]at m2;by_cases k1:((xn.length:Nat):Int) > 300
 ·rw [decide_eq_false (show ¬ ((xn.length:Nat):Int)<=300 by omega),Bool.false_and]at hsp
  exact XX @c1 @c2 @c3 @c4 hn0.lX @k1 @hsp
 rw [decide_eq_true (show ((xn.length:Nat):Int)<=300 by omega),Bool.true_and]at hsp
 cases k2:inR (xf.length:Nat) 1 (xn.length:Nat) with
 | false=>
   rw [k2,Bool.false_and]at hsp;exact LX @c1 @c2 @c3 @c4 hn0.lX hf0.lX @k1 @aH @k2 @hsp
 | true=>
 rw [k2,Bool.true_and]at hsp
 cases k5:inR M 0 ((xf.length:Int)-1) with
 | false=>
   rw [k5,Bool.false_and]at hsp;exact vI @c1 @c2 @c3 @c4 hn0.lX hf0.lX @k1 @k2 @w1 @aH @k5 @hsp
 | true=>
 rw [k5,Bool.true_and]at hsp
 cases k6:sY xc with
 | false=>
   rw [k6,Bool.false_and]at hsp;exact PN @c1 @c2 @c3 @c4 hn0.lX hf0.lX @k1 @k2 @w1 @aH @k5 @m1 @k6 @hsp
 | true=>
 rw [k6,Bool.true_and]at hsp;simp +contextual +decide (maxSteps:=1000000) only [↓ wP,wQ,tf,Nat.reduceAdd,wS,c1,c2,c3,c4,hn0.len,hf0.len,k1,k2,w1,aH,k5,m1,k6,lK (n:=xn.length) aC,eP]
 have hN:xn.length<=300:=by omega
 refine aL (fun i e=>∃ t n low o,e=⟨133,none,85,t,[],⟨n,low,o⟩,.no⟩/\t.val 1=.ptr 0 0 0/\t.val 3=.int .i64 (xn.length:Nat)/\t.val 4=.sl 1 0 0 xn.length (.is xn.length)/\t.val 5=.int .i64 (i:Nat)/\o.get 0=some (aQ 0 [ns,fs,.int .i64 M,cs])/\1<=n/\i<=xf.length/\(2<=n/\o.get 1=some (aQ 0 (kL xn.length ((xf.take i).map AV.num))))/\W=(xS xn.length 0 ((xf.take i).map AV.num) ((xf.drop i).map AV.num)&&mA xn.length xf.length xc (xf.map AV.num) 0 xn)) (fun i=>xf.length-i) 0 ⟨_,_,_,_,rfl,aG,aG,aG,eA,qO,aC,Nat.zero_le _,⟨⟨aC,by rw [show (xf.take 0).map AV.num=[] from rfl];exact aG⟩,hsp⟩⟩ ?_;rintro i _ ⟨t,n,low,o,rfl,t1,t3,t4,t5,g0,hn,hi,hq⟩;have f0:=eM (show 0<n by omega)
 rcases Nat.lt_or_ge i xf.length with hlt | hge
 ·obtain ⟨⟨hn2,g1⟩,hq⟩:=hq
  have f1:=eM (show 1<n by omega);obtain ⟨y,hDy,hm,hg,hd,hix,hw,hc⟩:=bB (fun x h=>tu_int.len h) hfx hf0.2 hlt
  have hpf:=fun {d:Option AV}=>tu_int.pf hDy (d:=d)
  have hsn:=mQ hg;obtain ⟨z,rfl⟩:=hDy;rw [show (AV.int .i64 z).num=z from rfl]at hsn;rw [hd,List.map_cons,xS,show (AV.int .i64 z).num=z from rfl]at hq;generalize (xf.take i).map AV.num=L0 at *
  cases k9:inR z 0 ((xn.length:Int)-1) with
  | false=>
    rw [k9,Bool.false_and,Bool.false_and,Bool.false_and]at hq;exact PN @t1 @t3 @t5 @g0 @f0 hf0.lX hf0.iX @hix @hc @hpf @w2 @aH @k9 @hq
  | true=>
    rw [k9,Bool.true_and]at hq
    have hb:0<=z/\z<=(xn.length:Int)-1:=by simpa [inR] using k9
    have hz0:(0<=z)=True:=eq_true hb.1;have hz1:(z<((xn.length:Nat):Int))=True:=eq_true aC;have hz2:(z.toNat<xn.length)=True:=eq_true aC;have hat:=KW (n:=xn.length) (L:=L0) hb.1 (show z<(xn.length:Int) by omega);have hset:=OV (n:=xn.length) (L:=L0) hb.1 (show z<(xn.length:Int) by omega);by_cases ZG:z∈L0
    ·rw [decide_eq_true ZG,Bool.not_true,Bool.false_and,Bool.false_and]at hq
     rw [decide_eq_true ZG]at hat;simp +contextual +decide (maxSteps:=1000000) only [↓ wP,wQ,tf,wS,t1,t3,t4,t5,g0,g1,f0,f1,hf0.len,hf0.idx,hix,hc,hpf,w2,aH,k9,hz0,hz1,hat,Nat.zero_add,Nat.mul_one,hq]
    ·rw [decide_eq_false ZG,Bool.not_false,Bool.true_and]at hq
     rw [decide_eq_false ZG]at hat;simp +contextual +decide (maxSteps:=1000000) only [↓ wP,wQ,tf,wS,t1,t3,t4,t5,g0,g1,f0,f1,hf0.len,hf0.idx,hix,hc,hpf,w2,aH,k9,hz0,hz1,hz2,xR,hat,hset,hw,Nat.zero_add,Nat.mul_one];exact ⟨i+1,by show _-_<_-_;omega,_,_,_,_,rfl,aM @t1,aM @t3,aM @t4,aG,ag1 @g0,aC,hlt,⟨⟨hn2,by rw [hsn];exact aG⟩,by rw [hsn];exact hq⟩⟩
 ·obtain rfl:i=xf.length:=Nat.le_antisymm hi hge
  obtain ⟨⟨hn2,g1⟩,hq⟩:=hq;have f1:=eM (show 1<n by omega);rw [List.take_length]at g1;rw [List.drop_length,List.map_nil,xS,Bool.true_and]at hq;refine PJ @t1 @t5 @g0 @f0 hf0.lX @bH ?_;have hq1:=hq;have hn1:=hn2;clear hq hn2;refine aL (fun i e=>∃ t n low o,e=⟨133,none,85,t,[],⟨n,low,o⟩,.no⟩/\t.val 1=.ptr 0 0 0/\t.val 3=.int .i64 (xn.length:Nat)/\t.val 4=.sl 1 0 0 xn.length (.is xn.length)/\t.val 6=.int .i64 (i:Nat)/\o.get 0=some (aQ 0 [ns,fs,.int .i64 M,cs])/\1<=n/\i<=xn.length/\(2<=n/\o.get 1=some (aQ 0 (kL xn.length (xf.map AV.num++(xn.take i).flatMap bT))))/\W=mA xn.length xf.length xc (xf.map AV.num++(xn.take i).flatMap bT) i (xn.drop i)) (fun i=>xn.length-i) 0 ⟨_,_,_,_,rfl,aM @t1,aM @t3,aM @t4,eA,by simp +decide only [g0],aC,Nat.zero_le _,⟨⟨hn1,by rw [show (xn.take 0).flatMap bT=[] from rfl,List.append_nil];exact by simp +decide only [g1]⟩,by rw [show (xn.take 0).flatMap bT=[] from rfl,List.append_nil];exact hq1⟩⟩ ?_;rintro i _ ⟨t,n,low,o,rfl,t1,t3,t4,t6,g0,hn,hi,hq⟩;have f0:=eM (show 0<n by omega)
  rcases Nat.lt_or_ge i xn.length with hlt | hge
  ·obtain ⟨⟨hn2,g1⟩,hq⟩:=hq
   have f1:=eM (show 1<n by omega);obtain ⟨y,hDy,hm,hg,hd,hix,hw,hc⟩:=bB (fun x h=>tk_node.len h) hnx hn0.2 hlt
   have hpf:=fun {d:Option AV}=>tk_node.pf hDy (d:=d)
   have htk:(xn.take (i+1)).flatMap bT=(xn.take i).flatMap bT++bT y:=by rw [List.take_add_one,hg,List.flatMap_append];simp
   have m3:=m2 hDy;rw [hd,mA,List.append_assoc,<-htk]at hq;obtain ⟨_,_,ki,pa,rfl,⟨op,rfl⟩,⟨nn,rfl⟩,hki,hpa⟩:=hDy;have ck:=(aT _ hki).2;have cp:=(eG _ hpa).2;obtain ⟨xk,hk0,hkx⟩:=hki
   have hkI:bT (.agg [.int .i64 op,.int .i64 nn,ki,pa])=xk.map AV.num:=by
    rw [bT,show ((AV.agg [.int .i64 op,.int .i64 nn,ki,pa]).fld 2).els=xk from hk0.els]
   rw [hkI]at hq htk;have hw4:IntKind.i64.wrap (((i:Nat):Int)+1)=((i:Nat):Int)+1:=IntWalk.i64_in _ aC
   cases k9:sV xf.length xc (.agg [.int .i64 op,.int .i64 nn,ki,pa]) with
   | false=>
     rw [k9,Bool.false_and]at hq;exact vI @t1 @t3 @t6 @g0 @f0 hn0.iX @hix @hc @hpf @m3 @k9 @hq
   | true=>
   rw [k9,Bool.true_and]at hq;refine xY @t1 @t3 @t6 @g0 @f0 hn0.iX @hix @hc @hpf @m3 @k9 ?_
   refine aL (fun j e=>∃ t k low o,e=⟨133,none,85,t,[],⟨k,low,o⟩,.no⟩/\t.val 1=.ptr 0 0 0/\t.val 3=.int .i64 (xn.length:Nat)/\t.val 4=.sl 1 0 0 xn.length (.is xn.length)/\t.val 6=.int .i64 (i:Nat)/\t.val 7=.int .i64 (j:Nat)/\o.get 0=some (aQ 0 [ns,fs,.int .i64 M,cs])/\2<=k/\j<=xk.length/\o.get 1=some (aQ 0 (kL xn.length (xf.map AV.num++(xn.take i).flatMap bT++(xk.take j).map AV.num)))/\
    W=(xS xn.length ((i:Int)+1) (xf.map AV.num++(xn.take i).flatMap bT++(xk.take j).map AV.num) ((xk.drop j).map AV.num)&&mA xn.length xf.length xc (xf.map AV.num++(xn.take (i+1)).flatMap bT) (i+1) (xn.drop (i+1)))) (fun j=>xk.length-j) 0
    ⟨_,_,_,_,rfl,aM @t1,aM @t3,aM @t4,aM @t6,eA,by simp +decide only [g0],aC,Nat.zero_le _,by rw [show (xk.take 0).map AV.num=[] from rfl,List.append_nil];exact by simp +decide only [g1],by rw [hq,show (xk.take 0).map AV.num=[] from rfl,List.append_nil];rfl⟩ ?_
   clear t1 t3 t4 t6 g0 f0 f1 hq hn hn2 g1;clear t;rintro j _ ⟨t,k,low,o,rfl,t1,t3,t4,t6,t7,g0,hk2,hj,g1,hq⟩;have f0:=eM (show 0<k by omega);have f1:=eM (show 1<k by omega)
   rcases Nat.lt_or_ge j xk.length with hjt | hjg
   ·obtain ⟨y2,hDy2,hm2,hg2,hd2,hix2,hw2,hc2⟩:=bB (fun x h=>tu_int.len h) hkx hk0.2 hjt
    have hpf2:=fun {d:Option AV}=>tu_int.pf hDy2 (d:=d)
    have hsn:=mQ hg2;obtain ⟨z,rfl⟩:=hDy2;rw [show (AV.int .i64 z).num=z from rfl]at hsn;rw [hd2,List.map_cons,xS,show (AV.int .i64 z).num=z from rfl]at hq
    have hsn':xf.map AV.num++(xn.take i).flatMap bT++(xk.take (j+1)).map AV.num=xf.map AV.num++(xn.take i).flatMap bT++(xk.take j).map AV.num++[z]:=by rw [hsn];simp
    generalize xf.map AV.num++(xn.take i).flatMap bT++(xk.take j).map AV.num=L0 at *
    cases k9:inR z ((i:Int)+1) ((xn.length:Int)-1) with
    | false=>
      rw [k9,Bool.false_and,Bool.false_and,Bool.false_and]at hq;exact aMq @t1 @t3 @t6 @t7 @g0 @f0 @ck hn0.iX @hix hk0.lX hk0.iX @hix2 @hc2 @hpf2 @w2 @hw4 @aH @k9 @hq
    | true=>
      rw [k9,Bool.true_and]at hq
      have hb:(i:Int)+1<=z/\z<=(xn.length:Int)-1:=by simpa [inR] using k9
      have hz0:(0<=z)=True:=eq_true aC;have hz1:(z<((xn.length:Nat):Int))=True:=eq_true aC;have hz2:(z.toNat<xn.length)=True:=eq_true aC;have hat:=KW (n:=xn.length) (L:=L0) (show 0<=z by omega) (show z<(xn.length:Int) by omega);have hset:=OV (n:=xn.length) (L:=L0) (show 0<=z by omega) (show z<(xn.length:Int) by omega);by_cases ZG:z∈L0
      ·rw [decide_eq_true ZG,Bool.not_true,Bool.false_and,Bool.false_and]at hq
       rw [decide_eq_true ZG]at hat;simp +contextual +decide (maxSteps:=1000000) only [↓ wP,wQ,tf,wS,t1,t3,t4,t6,t7,g0,g1,f0,f1,ck,hn0.idx,hix,hk0.len,hk0.idx,hix2,hc2,hpf2,w2,hw4,aH,k9,hz0,hz1,hat,Nat.zero_add,Nat.mul_one,hq]
      ·rw [decide_eq_false ZG,Bool.not_false,Bool.true_and]at hq
       rw [decide_eq_false ZG]at hat;simp +contextual +decide (maxSteps:=1000000) only [↓ wP,wQ,tf,wS,t1,t3,t4,t6,t7,g0,g1,f0,f1,ck,hn0.idx,hix,hk0.len,hk0.idx,hix2,hc2,hpf2,w2,hw4,aH,k9,hz0,hz1,hz2,xR,hat,hset,hw2,Nat.zero_add,Nat.mul_one];exact ⟨j+1,by show _-_<_-_;omega,_,_,_,_,rfl,aM @t1,aM @t3,aM @t4,aM @t6,aG,ag1 @g0,hk2,hjt,by rw [hsn'];exact aG,by rw [hsn'];exact hq⟩
   ·obtain rfl:j=xk.length:=Nat.le_antisymm hj hjg
    rw [List.take_length,List.append_assoc,<-htk]at g1;rw [List.drop_length,List.map_nil,xS,Bool.true_and]at hq;refine xY @t1 @t6 @t7 @g0 @f0 @ck hn0.iX @hix hk0.lX @bH @hw ?_;exact ⟨i+1,by show _-_<_-_;omega,_,_,_,_,rfl,aM @t1,aM @t3,aM @t4,aG,by simp +decide only [g0],aC,hlt,⟨hk2,by simp +decide only [g1]⟩,hq⟩
  ·obtain rfl:i=xn.length:=Nat.le_antisymm hi hge
   obtain ⟨⟨hn2,g1⟩,hq⟩:=hq;have f1:=eM (show 1<n by omega);rw [List.take_length]at g1;rw [List.drop_length,mA,List.take_length]at hq;generalize xf.map AV.num++xn.flatMap bT=L0 at *;refine GU @t3 @t6 @bH ?_;have hq1:=hq;have hn1:=hn2;clear hq hn2;refine aL (fun i e=>∃ t n low o,e=⟨133,none,85,t,[],⟨n,low,o⟩,.no⟩/\t.val 3=.int .i64 (xn.length:Nat)/\t.val 4=.sl 1 0 0 xn.length (.is xn.length)/\t.val 9=.int .i64 (i:Nat)/\o.get 1=some (aQ 0 (kL xn.length L0))/\2<=n/\i<=xn.length/\2<=n/\W=((kL xn.length L0).drop i).all isT) (fun i=>xn.length-i) 0 ⟨_,_,_,_,rfl,aM @t3,aM @t4,eA,by simp +decide only [g1],aC,Nat.zero_le _,⟨hn1,hq1⟩⟩ ?_;rintro i _ ⟨t,n,low,o,rfl,t3,t4,t9,g1,hn,hi,hq⟩;have f1:=eM (show 1<n by omega)
   rcases Nat.lt_or_ge i xn.length with hlt | hge
   ·obtain ⟨hn2,hq⟩:=hq
    have hz0:((0:Int)<=(i:Nat))=True:=eq_true aC;have hz1:(((i:Nat):Int)<((xn.length:Nat):Int))=True:=eq_true aC;have hz2:(i<xn.length)=True:=eq_true aC
    have hw:IntKind.i64.wrap (((i:Nat):Int)+1)=((i+1:Nat):Int):=by rw [IntWalk.i64_in _ aC];rfl
    have hat:=KW (n:=xn.length) (L:=L0) (f:=i) aC aC;rw [Int.toNat_natCast]at hat
    have hd:(kL xn.length L0).drop i=.bool (decide ((i:Int)∈L0))::(kL xn.length L0).drop (i+1):=by
     have hi':i<(kL xn.length L0).length:=by rw [xR];exact hlt
     rw [List.drop_eq_getElem_cons hi']
     congr 1
     rw [List.getElem?_eq_getElem hi']at hat;exact Option.some.inj hat
    rw [hd,List.all_cons,show isT (.bool (decide ((i:Int)∈L0)))=decide ((i:Int)∈L0) from rfl]at hq;by_cases ZG:(i:Int)∈L0
    ·rw [decide_eq_true ZG]at hq hat
     rw [Bool.true_and]at hq;refine HA @t3 @t4 @t9 @g1 @f1 @hz0 @hz1 @hat @hw @Int.toNat_natCast @Nat.zero_add @Nat.mul_one ?_;exact ⟨i+1,by show _-_<_-_;omega,_,_,_,_,rfl,aM @t3,aM @t4,aG,by simp +decide only [g1],aC,hlt,⟨hn2,hq⟩⟩
    ·rw [decide_eq_false ZG]at hq hat
     rw [Bool.false_and]at hq;exact vI @t3 @t4 @t9 @g1 @f1 @hz0 @hz1 @hat @Int.toNat_natCast @Nat.zero_add @Nat.mul_one @hq
   ·obtain rfl:i=xn.length:=Nat.le_antisymm hi hge
    obtain ⟨hn2,hq⟩:=hq;rw [List.drop_eq_nil_of_le (by rw [xR];exact Nat.le_refl _),List.all_nil]at hq;exact az4 @t3 @t9 @bH @hq
end
def TO:Nat->AV->Bool
 | 0,_=>true
 | d+1,a=>(a.fld 3).els.all (TO d)&&decide (((a.fld 2).txt.length:Int)<=30)
theorem aFy:∀ {d b:Nat} {a:AV},TPatN d a->TPatN b a->TO d a=TO b a
 | 0,_,_,h,_=>h.elim
 | _,0,_,_,h=>h.elim
 | d+1,b+1,a,h,o=>by
   obtain ⟨x,y,z,u,rfl,_,_,_,xs,m,v⟩:=h;obtain ⟨_,_,_,_,e,_,_,_,k,c,f⟩:=o;cases e
   have:xs=k:=by rw [<-m.els,c.els]
   subst this;have r:((AV.agg [x,y,z,u]).fld 3).els=xs:=m.els;simp only [TO,r];rw [wM fun q l=>aFy (v q l) (f q l)]
abbrev spV (d:Nat):List AV->Option AV:=vJ (TPatN d) fun a=>.bool (TO d a)
set_option maxHeartbeats 1000000 in
theorem aOr:∀ d,Abs.Ok Tryz.prog 103 (spV d)
 | 0=>AH fun a h=>h.elim
 | d+1=>AH fun a H=>by
   have E:=(cI (d+1) a H).1;obtain ⟨q,u,st,pa,rfl,A,C,⟨s,rfl,U⟩,M⟩:=H;have N:=(tu_int _ A).2;have O:=(tu_int _ C).2;have P:=(kE (kO (cI d)) _ M).2;obtain ⟨xs,c,F⟩:=M;have T:=c.2;refine aF (L:=[ent 103 (spV d)]) (elist_cons (aOr d).ent aE) aN (by kernel_rfl) Tryz.func103 Tryz.ntmps103 Tryz.results103 rfl rfl (aA E.und aD) aJ ?_
   have D:TO (d+1) (.agg [q,u,.str s,pa])=(xs.all (TO d)&&decide ((s.length:Int)<=30)):=by
    rw [TO,show ((AV.agg [q,u,.str s,pa]).fld 3).els=xs from c.els];rfl
   generalize TO (d+1) (.agg [q,u,.str s,pa])=W at *;refine GU @N @O @P ?_;refine aL (fun i e=>∃ t n low o,e=⟨22,none,103,t,[],⟨n,low,o⟩,.no⟩/\t.val 1=.ptr 0 0 0/\t.val 3=.int .i64 (i:Nat)/\o.get 0=some (aQ 0 [q,u,.str s,pa])/\1<=n/\i<=xs.length/\W=((xs.drop i).all (TO d)&&decide ((s.length:Int)<=30))) (fun i=>xs.length-i) 0 ⟨_,_,_,_,rfl,aG,eA,aG,aC,Nat.zero_le _,D⟩ ?_;rintro i _ ⟨t,n,low,o,rfl,v,G,r,Z,S,b⟩;have w:=eM (show 0<n by omega)
   rcases Nat.lt_or_ge i xs.length with l | B
   ·obtain ⟨y,f,Y,X,R,k,V,I⟩:=bB (fun x h=>(cI d).len h) F T l
    have m:=fun {Q:Option AV}=>(cI d).pf f (d:=Q)
    have J:spV d [y]=some (.bool (TO d y)):=cR f;rw [R,List.all_cons]at b
    cases k1:TO d y with
    | false=>
      rw [k1,Bool.false_and,Bool.false_and]at b;exact vI @v @G @r @w c.lX c.iX @k @I @m @J @k1 @b
    | true=>
      rw [k1,Bool.true_and]at b;refine HA @v @G @r @w c.lX c.iX @k @I @m @J @k1 @V ?_;exact ⟨i+1,by show _-_<_-_;omega,_,_,_,_,rfl,aM @v,aG,by simp +decide only [r],aC,l,b⟩
   ·obtain rfl:i=xs.length:=Nat.le_antisymm S B
    rw [List.drop_length,List.all_nil,Bool.true_and]at b;exact XX @v @G @r @w c.lX @bH @b
def iY (a:AV):Bool:=decide (pT (depth a) a<=16)&&TO (depth a) a
theorem KX {d:Nat} {a:AV} (h:TPatN d a):iY a=(decide (pT d a<=16)&&TO d a):=by
 have b:=PA ⟨d,h⟩;rw [iY,LF b h,aFy b h]
abbrev zY:List AV->Option AV:=vJ wW fun a=>.bool (iY a)
theorem smallPat_ok:Abs.Ok Tryz.prog 68 zY:=AH fun a c=>by
 have l:=(tk_pat a c).1;obtain ⟨d,c⟩:=c;rw [KX c];have m:spV d [a]=some (.bool (TO d a)):=cR c;have e:wK d [a,.int .i64 16]=some (.int .i64 (wN d a 16)):=sg2_eq ⟨c,_,rfl,aC,aC⟩;have f:=XL d a 16 c aC;obtain ⟨k,rfl,b,h⟩:=(cI d a c).2;refine aF (L:=[ent 102 (wK d),ent 103 (spV d)]) (elist_cons (EF d).ent (elist_cons (aOr d).ent aE)) aN (by kernel_rfl) Tryz.func68 Tryz.ntmps68 Tryz.results68 rfl rfl (aA l.und aD) aJ ?_;by_cases k1:pT d (.agg k)<=16
 ·have k2:(wN d (.agg k) 16 ≥ 0)=True:=eq_true (by rw [f];split<;>omega)
  have o:((0:Int)<=wN d (.agg k) 16)=True:=k2;exact XX @b @h (eY b) @m @e @k1 @k2
 ·have k2:(wN d (.agg k) 16 ≥ 0)=False:=eq_false (by rw [f];split<;>omega)
  exact az6 @b @h (eY b) @e @k1 @k2
def nB (x:AV):Bool:=decide (((x.fld 2).els.length:Int)<=10)&&(decide (((x.fld 3).els.length:Int)<=10)&&(x.fld 3).els.all iY)
def xT (x:AV):Bool:=decide (((x.fld 0).txt.length:Int)<=40)
def dY (ns fs cs:List AV):Bool:=decide ((ns.length:Int)<=320)&&(decide ((fs.length:Int)<=320)&&(decide ((cs.length:Int)<=25)&&(cs.all xT&&ns.all nB)))
section
variable {ns fs mm cs:AV}
set_option maxHeartbeats 16000000 in
theorem KY (h:PG ns fs mm cs):Abs.Returns Tryz.prog 25 [pg ns fs mm cs] (.bool (dY ns.els fs.els cs.els)):=by
 obtain ⟨X,Y,Z,c4⟩:=h.cells;refine aF (L:=[ent 68 zY]) (elist_cons smallPat_ok.ent aE) aN (by kernel_rfl) Tryz.func25 Tryz.ntmps25 Tryz.results25 rfl rfl (aA h.und.und aD) aJ ?_;obtain ⟨u,b,ad⟩:=h.ns;obtain ⟨Q,E,ah⟩:=h.fs;obtain ⟨w,c,aa⟩:=h.cs;rw [b.els,E.els,c.els];have l:dY u Q w=(decide ((u.length:Int)<=320)&&(decide ((Q.length:Int)<=320)&&(decide ((w.length:Int)<=25)&&(w.all xT&&u.all nB)))):=rfl;generalize dY u Q w=W at *;by_cases k1:((u.length:Nat):Int) > 320
 ·rw [decide_eq_false (show ¬ ((u.length:Nat):Int)<=320 by omega),Bool.false_and]at l
  exact XX @X @Y @Z @c4 b.lX @k1 @l
 by_cases k2:((Q.length:Nat):Int) > 320
 ·rw [decide_eq_false (show ¬ ((Q.length:Nat):Int)<=320 by omega),Bool.false_and,Bool.and_false]at l
  exact az9 @X @Y @Z @c4 b.lX E.lX @k1 @k2 @l
 by_cases k3:((w.length:Nat):Int) > 25
 ·rw [decide_eq_false (show ¬ ((w.length:Nat):Int)<=25 by omega),Bool.false_and,Bool.and_false,Bool.and_false]at l
  exact PM @X @Y @Z @c4 b.lX E.lX c.lX @k1 @k2 @k3 @l
 rw [decide_eq_true (show ((u.length:Nat):Int)<=320 by omega),Bool.true_and,decide_eq_true (show ((Q.length:Nat):Int)<=320 by omega),Bool.true_and,decide_eq_true (show ((w.length:Nat):Int)<=25 by omega),Bool.true_and]at l;refine rA @X @Y @Z @c4 b.lX E.lX c.lX @k1 @k2 @k3 ?_;refine aL (fun i e=>∃ t n low o,e=⟨74,none,25,t,[],⟨n,low,o⟩,.no⟩/\t.val 1=.ptr 0 0 0/\t.val 3=.int .i64 (i:Nat)/\o.get 0=some (aQ 0 [ns,fs,mm,cs])/\1<=n/\i<=w.length/\W=((w.drop i).all xT&&u.all nB)) (fun i=>w.length-i) 0 ⟨_,_,_,_,rfl,aG,eA,aG,aC,Nat.zero_le _,l⟩ ?_;rintro i _ ⟨t,n,low,o,rfl,r,t3,q,hn,hi,a⟩;have A:=eM (show 0<n by omega)
 rcases Nat.lt_or_ge i w.length with B | M
 ·obtain ⟨y,D,hm,hg,hd,v,hw,P⟩:=bB (fun x h=>tk_con.len h) aa c.2 B
  rw [hd,List.all_cons]at a;obtain ⟨_,_,rfl,⟨s,rfl,al⟩,⟨m,rfl⟩⟩:=D;rw [show xT (.agg [.str s,.int .i64 m])=decide ((s.length:Int)<=40) from rfl]at a;by_cases k4:((s.length:Nat):Int) > 40
  ·rw [decide_eq_false (show ¬ ((s.length:Nat):Int)<=40 by omega),Bool.false_and,Bool.false_and]at a
   exact LX @r @t3 @q @A c.lX c.iX @v @P @k4 @a
  ·rw [decide_eq_true (show ((s.length:Nat):Int)<=40 by omega),Bool.true_and]at a
   refine rA @r @t3 @q @A c.lX c.iX @v @P @k4 @hw ?_;exact ⟨i+1,by show _-_<_-_;omega,_,_,_,_,rfl,aM @r,aG,by simp +decide only [q],aC,B,a⟩
 ·obtain rfl:i=w.length:=Nat.le_antisymm hi M
  rw [List.drop_length,List.all_nil,Bool.true_and]at a;refine PJ @r @t3 @q @A c.lX @bH ?_;have af:=a;clear a;refine aL (fun i e=>∃ t n low o,e=⟨74,none,25,t,[],⟨n,low,o⟩,.no⟩/\t.val 1=.ptr 0 0 0/\t.val 4=.int .i64 (i:Nat)/\o.get 0=some (aQ 0 [ns,fs,mm,cs])/\1<=n/\i<=u.length/\W=(u.drop i).all nB) (fun i=>u.length-i) 0 ⟨_,_,_,_,rfl,aM @r,eA,by simp +decide only [q],aC,Nat.zero_le _,af⟩ ?_;rintro i _ ⟨t,n,low,o,rfl,r,G,q,hn,hi,a⟩;have A:=eM (show 0<n by omega)
  rcases Nat.lt_or_ge i u.length with B | M
  ·obtain ⟨y,D,hm,hg,hd,v,hw,P⟩:=bB (fun x h=>tk_node.len h) ad b.2 B
   have O:=fun {d:Option AV}=>tk_node.pf D (d:=d)
   rw [hd,List.all_cons]at a;obtain ⟨_,_,ki,pa,rfl,⟨op,rfl⟩,⟨nn,rfl⟩,U,V⟩:=D;have ck:=(aT _ U).2;have cp:=(eG _ V).2;obtain ⟨xk,F,aj⟩:=U;obtain ⟨C,f,ae⟩:=V;rw [show nB (.agg [.int .i64 op,.int .i64 nn,ki,pa])=(decide ((xk.length:Int)<=10)&&(decide ((C.length:Int)<=10)&&C.all iY)) by rw [<-F.els,<-f.els];rfl]at a;by_cases k4:((xk.length:Nat):Int) > 10
   ·rw [decide_eq_false (show ¬ ((xk.length:Nat):Int)<=10 by omega),Bool.false_and,Bool.false_and]at a
    exact aHc @r @G @q @A @ck @cp b.lX b.iX @v @P @O F.lX @k4 @eP @a
   by_cases k5:((C.length:Nat):Int) > 10
   ·rw [decide_eq_false (show ¬ ((C.length:Nat):Int)<=10 by omega),Bool.false_and,Bool.and_false,Bool.false_and]at a
    exact aMp @r @G @q @A @ck @cp b.lX b.iX @v @P @O F.lX @k4 f.lX @k5 @eP @a
   rw [decide_eq_true (show ((xk.length:Nat):Int)<=10 by omega),Bool.true_and,decide_eq_true (show ((C.length:Nat):Int)<=10 by omega),Bool.true_and]at a;refine AC @r @G @q @A @ck @cp b.lX b.iX @v @P @O F.lX @k4 f.lX @k5 @eP ?_
   refine aL (fun j e=>∃ t k low o m,e=⟨74,none,25,t,[],⟨k,low,o⟩,.no⟩/\t.val 1=.ptr 0 0 0/\t.val 4=.int .i64 (i:Nat)/\t.val 5=.ptr m 0 0/\t.val 6=.int .i64 (j:Nat)/\o.get 0=some (aQ 0 [ns,fs,mm,cs])/\o.get m=some (aQ 0 [.int .i64 op,.int .i64 nn,ki,pa])/\0<k/\m<k/\j<=C.length/\W=((C.drop j).all iY&&(u.drop (i+1)).all nB)) (fun j=>C.length-j) 0
    ⟨_,_,_,_,n,rfl,aM @r,aM @G,aG,eA,ag2 @q @A,aG,aC,aC,Nat.zero_le _,a⟩ ?_
   clear r G q A a hn;clear t;rintro j _ ⟨t,k,low,o,m,rfl,r,G,t5,t6,q,gm,N,T,hj,a⟩;have A:=eM N;have fm:=eM T
   rcases Nat.lt_or_ge j C.length with S | ac
   ·obtain ⟨y2,H,ak,ai,ab,I,ag,R⟩:=bB (fun x h=>tk_pat.len h) ae f.2 S
    have J:=fun {d:Option AV}=>tk_pat.pf H (d:=d)
    have he:zY [y2]=some (.bool (iY y2)):=cR H;rw [ab,List.all_cons]at a
    cases k6:iY y2 with
    | false=>
      rw [k6,Bool.false_and,Bool.false_and]at a;exact vI @t5 @t6 @gm @fm f.lX f.iX @I @R @J @he @k6 @a
    | true=>
      rw [k6,Bool.true_and]at a;refine HA @t5 @t6 @gm @fm f.lX f.iX @I @R @J @he @k6 @ag ?_;exact ⟨j+1,by show _-_<_-_;omega,_,_,_,_,_,rfl,aM @r,aM @G,aM @t5,aG,by simp +decide only [q],by simp +decide only [gm],N,T,S,a⟩
   ·obtain rfl:j=C.length:=Nat.le_antisymm hj ac
    rw [List.drop_length,List.all_nil,Bool.true_and]at a;refine JB @G @t5 @t6 @gm @fm f.lX @bH @hw ?_;exact ⟨i+1,by show _-_<_-_;omega,_,_,_,_,rfl,aM @r,aG,by simp +decide only [q],N,B,a⟩
  ·obtain rfl:i=u.length:=Nat.le_antisymm hi M
   rw [List.drop_length,List.all_nil]at a;exact XX @r @G @q @A b.lX @bH @a
end
end
end Go.Proofs.YtdipddlhenoglaaGreat
