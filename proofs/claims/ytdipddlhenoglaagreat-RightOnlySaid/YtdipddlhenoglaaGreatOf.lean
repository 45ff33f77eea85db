/-
  The reference of programs: programs as they are defined.
-/
import Derived.Test.YtdipddlhenoglaaGreatOe
set_option linter.unusedVariables false
set_option linter.unusedSimpArgs false
namespace Go.Proofs.YtdipddlhenoglaaGreat
open Go.Abs Go Go.Abs.TryzF
noncomputable section
set_option maxRecDepth 10000
def kF (n:Nat) (L:List Int):List AV:=(List.range n).map fun i:Nat=>.bool (decide (((i:Nat):Int)∈L))
theorem xR {n:Nat} {L:List Int}:(kF n L).length=n:=by simp [kF]
theorem KD {n:Nat} {L:List Int} {f:Int} (b:0<=f) (c:f<n):(kF n L)[f.toNat]?=some (.bool (decide (f∈L))):=by
 have:f.toNat<n:=by omega
 have a:((f.toNat:Nat):Int)=f:=by omega
 simp [kF,this,a]
theorem OD {n:Nat} {L:List Int} {f:Int} (h:0<=f) (k:f<n):(kF n L).set f.toNat (.bool true)=kF n (L++[f]):=by
 apply List.ext_getElem?;intro i;rw [List.getElem?_set];simp only [kF,List.length_map,List.length_range,List.getElem?_map];by_cases c:f.toNat=i
 ·subst c
  have d:f.toNat<n:=by omega
  have e:((f.toNat:Nat):Int)=f:=by omega
  simp [d,e]
 ·rw [if_neg c]
  by_cases a:i<n
  ·have b:¬ (i:Int)=f:=by omega
   simp [a,b]
  ·simp [a]
theorem OE {n:Nat}:dA [.bool false] n=kF n []:=by
 have h:∀ m,kF m []=List.replicate m (.bool false):=fun m=>by
  simp only [kF,List.not_mem_nil,decide_false]
  exact List.ext_getElem (by simp) fun i b c=>by simp
 induction n with
 | zero=>rfl
 | succ n a=>
   rw [dA,a,h,h,List.replicate_succ];rfl
theorem ZY {n:Nat} {L:List Int}:∀ x∈kF n L,aHc x:=fun x a=>by obtain ⟨i,_,rfl⟩:=List.mem_map.1 a;exact ⟨_,rfl⟩
theorem aLd:msK Tryz.prog 83=some (1,1,[.bool false]):=by kernel_rfl
theorem sU {O:bP} {lo c:Operand} {e:Env} {K:ORes->Prop} {n:Nat} (q:n<=1000) (l:e.eval lo=.int .i64 (n:Nat)) (k:e.eval c=.int .i64 (n:Nat)):
 dS Tryz.prog O (.makeSlice 83 lo c) e K↔K (.val' (.sl e.s.n 0 0 n (.is n)) (e.s.push (aR 0 (kF n [])))):=by
 have h:=vV (O:=O) (e:=e) (K:=fun r=>r=.val' (.sl e.s.n 0 0 n (.is n)) (e.s.push (aR 0 (kF n [])))) aLd l k (Nat.le_refl n) aD aD (by rw [OE];exact List.all_eq_true.2 fun x o=>(XO x (ZY x o)).2) (by rw [OE];rfl);obtain ⟨m,r,d,f⟩:=h;constructor
 ·rintro ⟨p,u,a,b⟩
  have:eL Tryz.prog (aO Tryz.prog O p) (.makeSlice 83 lo c) e=eL Tryz.prog (aO Tryz.prog O m) (.makeSlice 83 lo c) e:=rfl;rw [this,d]at a;cases a;rw [f]at b;exact b
 ·intro h;exact ⟨m,r,d,by rw [f];exact h⟩
def xS (N:Nat) (lo:Int):List Int->List Int->Bool
 | _,[]=>true
 | L,k::l=>(inR k lo ((N:Int)-1) && !decide (k∈L))&&xS N lo (L++[k]) l
def isT:AV->Bool
 | .bool b=>b
 | _=>false
def lI (N:Nat) (a:Int) (cs:List AV):List Int->Nat->List AV->Bool
 | L,_,[]=>(kF N L).all isT
 | L,i,x::l=>sV a cs x&&(xS N ((i:Int)+1) L (bS x)&&lI N a cs (L++bS x) (i+1) l)
def mT (ns fs:List AV) (mm:Int) (cs:List AV):Bool:=
 decide ((ns.length:Int)<=300)&&(inR fs.length 1 ns.length&&(inR mm 0 ((fs.length:Int)-1)&&(sW cs&&(xS ns.length 0 [] (fs.map AV.num)&&lI ns.length fs.length cs (fs.map AV.num) 0 ns))))
abbrev SS:List AV->Option AV:=sB (fun a b=>gC a/\eH b) fun a b=>.bool (sV (a.fld 1).els.length (a.fld 3).els b)
theorem rnodeV_ok:Abs.Ok Tryz.prog 130 SS:=ok2 fun a b ⟨⟨ns,fs,mm,cs,e,c,d,f,h⟩,k⟩=>by
 subst e;exact aFh ⟨c,d,f,h⟩ b k
section
variable {ns fs mm cs:AV}
set_option maxHeartbeats 16000000 in
theorem ST (h:PG ns fs mm cs) (hcl:cs.els.length<=1000):Abs.Returns Tryz.prog 85 [pg ns fs mm cs] (.bool (mT ns.els fs.els mm.num cs.els)):=by
 obtain ⟨c1,c2,c3,c4⟩:=h.cells;have hpg:=h;have m1:TB [cs]=some (.bool (sW cs.els)):=cI ⟨h.cs,hcl⟩
 have m2:∀ {x:AV},eH x->SS [pg ns fs mm cs,x]=some (.bool (sV fs.els.length cs.els x)):=fun hx=>sg2_eq ⟨⟨_,_,_,_,rfl,h.ns,h.fs,h.mm,h.cs⟩,hx⟩
 obtain ⟨M,hM⟩:=h.mm;refine aF (L:=[ent 128 gB,ent 129 TB,ent 130 SS]) (elist_cons rIn5_ok.ent (elist_cons rcons_ok.ent (elist_cons rnodeV_ok.ent aE))) (fun r=>(bif Nat.beq r 14 then [6] else [],[])) (by kernel_rfl) Tryz.func85 Tryz.ntmps85 Tryz.results85 rfl rfl (aA h.und.und aC) aI ?_;subst hM;have hsp:mT ns.els fs.els (AV.int .i64 M).num cs.els=(decide ((ns.els.length:Int)<=300)&&(inR fs.els.length 1 ns.els.length&&(inR M 0 ((fs.els.length:Int)-1)&&(sW cs.els&&(xS ns.els.length 0 [] (fs.els.map AV.num)&&lI ns.els.length fs.els.length cs.els (fs.els.map AV.num) 0 ns.els))))):=rfl;generalize mT ns.els fs.els (AV.int .i64 M).num cs.els=W at *;obtain ⟨xn,hn0,hnx⟩:=h.ns;obtain ⟨xf,hf0,hfx⟩:=h.fs;obtain ⟨xc,hc0,hcx⟩:=h.cs;have en:=hn0.els;have ef:=hf0.els;have ec:=hc0.els;have w1:=bU hf0.2;have w2:=bU hn0.2;rw [en,ef,ec]at hsp;rw [ec]at m1;rw [ef,ec]at m2;by_cases k1:((xn.length:Nat):Int) > 300
 ·rw [decide_eq_false (show ¬ ((xn.length:Nat):Int)<=300 by omega),Bool.false_and]at hsp
  exact OQ @c1 @c2 @c3 @c4 hn0.lX @k1 @hsp
 rw [decide_eq_true (show ((xn.length:Nat):Int)<=300 by omega),Bool.true_and]at hsp
 cases k2:inR (xf.length:Nat) 1 (xn.length:Nat) with
 | false=>
   rw [k2,Bool.false_and]at hsp;exact GR @c1 @c2 @c3 @c4 hn0.lX hf0.lX @k1 @aH @k2 @hsp
 | true=>
 rw [k2,Bool.true_and]at hsp
 cases k5:inR M 0 ((xf.length:Int)-1) with
 | false=>
   rw [k5,Bool.false_and]at hsp;exact vN @c1 @c2 @c3 @c4 hn0.lX hf0.lX @k1 @k2 @w1 @aH @k5 @hsp
 | true=>
 rw [k5,Bool.true_and]at hsp
 cases k6:sW xc with
 | false=>
   rw [k6,Bool.false_and]at hsp;exact GS @c1 @c2 @c3 @c4 hn0.lX hf0.lX @k1 @k2 @w1 @aH @k5 @m1 @k6 @hsp
 | true=>
 rw [k6,Bool.true_and]at hsp;simp +contextual +decide (maxSteps:=1000000) only [↓ wP,wQ,tf,Nat.reduceAdd,wS,c1,c2,c3,c4,hn0.len,hf0.len,k1,k2,w1,aH,k5,m1,k6,sU (n:=xn.length) aD,gL]
 have hN:xn.length<=300:=by omega
 refine aM (fun i e=>∃ t n low o,e=⟨133,none,85,t,[],⟨n,low,o⟩,.no⟩/\t.val 1=.ptr 0 0 0/\t.val 3=.int .i64 (xn.length:Nat)/\t.val 4=.sl 1 0 0 xn.length (.is xn.length)/\t.val 5=.int .i64 (i:Nat)/\o.get 0=some (aR 0 [ns,fs,.int .i64 M,cs])/\1<=n/\i<=xf.length/\(2<=n/\o.get 1=some (aR 0 (kF xn.length ((xf.take i).map AV.num))))/\W=(xS xn.length 0 ((xf.take i).map AV.num) ((xf.drop i).map AV.num)&&lI xn.length xf.length xc (xf.map AV.num) 0 xn)) (fun i=>xf.length-i) 0 ⟨_,_,_,_,rfl,aG,aG,aG,eT,qC,aD,Nat.zero_le _,⟨⟨aD,by rw [show (xf.take 0).map AV.num=[] from rfl];exact aG⟩,hsp⟩⟩ ?_;rintro i _ ⟨t,n,low,o,rfl,t1,t3,t4,t5,g0,hn,hi,hq⟩;have f0:=dQ (show 0<n by omega)
 rcases Nat.lt_or_ge i xf.length with hlt | hge
 ·obtain ⟨⟨hn2,g1⟩,hq⟩:=hq
  have f1:=dQ (show 1<n by omega);obtain ⟨y,hDy,hm,hg,hd,hix,hw,hc⟩:=bI (fun x h=>tu_int.len h) hfx hf0.2 hlt
  have hpf:=fun {d:Option AV}=>tu_int.pf hDy (d:=d)
  have hsn:=lW hg;obtain ⟨z,rfl⟩:=hDy;rw [show (AV.int .i64 z).num=z from rfl]at hsn;rw [hd,List.map_cons,xS,show (AV.int .i64 z).num=z from rfl]at hq;generalize (xf.take i).map AV.num=L0 at *
  cases k9:inR z 0 ((xn.length:Int)-1) with
  | false=>
    rw [k9,Bool.false_and,Bool.false_and,Bool.false_and]at hq;exact GS @t1 @t3 @t5 @g0 @f0 hf0.lX hf0.iX @hix @hc @hpf @w2 @aH @k9 @hq
  | true=>
    rw [k9,Bool.true_and]at hq
    have hb:0<=z/\z<=(xn.length:Int)-1:=by simpa [inR] using k9
    have hz0:(0<=z)=True:=eq_true hb.1;have hz1:(z<((xn.length:Nat):Int))=True:=eq_true aD;have hz2:(z.toNat<xn.length)=True:=eq_true aD;have hat:=KD (n:=xn.length) (L:=L0) hb.1 (show z<(xn.length:Int) by omega);have hset:=OD (n:=xn.length) (L:=L0) hb.1 (show z<(xn.length:Int) by omega);by_cases YT:z∈L0
    ·rw [decide_eq_true YT,Bool.not_true,Bool.false_and,Bool.false_and]at hq
     rw [decide_eq_true YT]at hat;simp +contextual +decide (maxSteps:=1000000) only [↓ wP,wQ,tf,wS,t1,t3,t4,t5,g0,g1,f0,f1,hf0.len,hf0.idx,hix,hc,hpf,w2,aH,k9,hz0,hz1,hat,Nat.zero_add,Nat.mul_one,hq]
    ·rw [decide_eq_false YT,Bool.not_false,Bool.true_and]at hq
     rw [decide_eq_false YT]at hat;simp +contextual +decide (maxSteps:=1000000) only [↓ wP,wQ,tf,wS,t1,t3,t4,t5,g0,g1,f0,f1,hf0.len,hf0.idx,hix,hc,hpf,w2,aH,k9,hz0,hz1,hz2,xR,hat,hset,hw,Nat.zero_add,Nat.mul_one];exact ⟨i+1,by show _-_<_-_;omega,_,_,_,_,rfl,aN @t1,aN @t3,aN @t4,aG,LF @g0,aD,hlt,⟨⟨hn2,by rw [hsn];exact aG⟩,by rw [hsn];exact hq⟩⟩
 ·obtain rfl:i=xf.length:=Nat.le_antisymm hi hge
  obtain ⟨⟨hn2,g1⟩,hq⟩:=hq;have f1:=dQ (show 1<n by omega);rw [List.take_length]at g1;rw [List.drop_length,List.map_nil,xS,Bool.true_and]at hq;refine XK @t1 @t5 @g0 @f0 hf0.lX @bG ?_;have hq1:=hq;have hn1:=hn2;clear hq hn2;refine aM (fun i e=>∃ t n low o,e=⟨133,none,85,t,[],⟨n,low,o⟩,.no⟩/\t.val 1=.ptr 0 0 0/\t.val 3=.int .i64 (xn.length:Nat)/\t.val 4=.sl 1 0 0 xn.length (.is xn.length)/\t.val 6=.int .i64 (i:Nat)/\o.get 0=some (aR 0 [ns,fs,.int .i64 M,cs])/\1<=n/\i<=xn.length/\(2<=n/\o.get 1=some (aR 0 (kF xn.length (xf.map AV.num++(xn.take i).flatMap bS))))/\W=lI xn.length xf.length xc (xf.map AV.num++(xn.take i).flatMap bS) i (xn.drop i)) (fun i=>xn.length-i) 0 ⟨_,_,_,_,rfl,aN @t1,aN @t3,aN @t4,eT,by simp +decide only [g0],aD,Nat.zero_le _,⟨⟨hn1,by rw [show (xn.take 0).flatMap bS=[] from rfl,List.append_nil];exact by simp +decide only [g1]⟩,by rw [show (xn.take 0).flatMap bS=[] from rfl,List.append_nil];exact hq1⟩⟩ ?_;rintro i _ ⟨t,n,low,o,rfl,t1,t3,t4,t6,g0,hn,hi,hq⟩;have f0:=dQ (show 0<n by omega)
  rcases Nat.lt_or_ge i xn.length with hlt | hge
  ·obtain ⟨⟨hn2,g1⟩,hq⟩:=hq
   have f1:=dQ (show 1<n by omega);obtain ⟨y,hDy,hm,hg,hd,hix,hw,hc⟩:=bI (fun x h=>tk_node.len h) hnx hn0.2 hlt
   have hpf:=fun {d:Option AV}=>tk_node.pf hDy (d:=d)
   have htk:(xn.take (i+1)).flatMap bS=(xn.take i).flatMap bS++bS y:=by rw [List.take_add_one,hg,List.flatMap_append];simp
   have m3:=m2 hDy;rw [hd,lI,List.append_assoc,<-htk]at hq;obtain ⟨_,_,ki,pa,rfl,⟨op,rfl⟩,⟨nn,rfl⟩,hki,hpa⟩:=hDy;have ck:=(aT _ hki).2;have cp:=(fG _ hpa).2;obtain ⟨xk,hk0,hkx⟩:=hki
   have hkI:bS (.agg [.int .i64 op,.int .i64 nn,ki,pa])=xk.map AV.num:=by
    rw [bS,show ((AV.agg [.int .i64 op,.int .i64 nn,ki,pa]).fld 2).els=xk from hk0.els]
   rw [hkI]at hq htk;have hw4:IntKind.i64.wrap (((i:Nat):Int)+1)=((i:Nat):Int)+1:=IntWalk.i64_in _ aD
   cases k9:sV xf.length xc (.agg [.int .i64 op,.int .i64 nn,ki,pa]) with
   | false=>
     rw [k9,Bool.false_and]at hq;exact vN @t1 @t3 @t6 @g0 @f0 hn0.iX @hix @hc @hpf @m3 @k9 @hq
   | true=>
   rw [k9,Bool.true_and]at hq;refine AF @t1 @t3 @t6 @g0 @f0 hn0.iX @hix @hc @hpf @m3 @k9 ?_
   refine aM (fun j e=>∃ t k low o,e=⟨133,none,85,t,[],⟨k,low,o⟩,.no⟩/\t.val 1=.ptr 0 0 0/\t.val 3=.int .i64 (xn.length:Nat)/\t.val 4=.sl 1 0 0 xn.length (.is xn.length)/\t.val 6=.int .i64 (i:Nat)/\t.val 7=.int .i64 (j:Nat)/\o.get 0=some (aR 0 [ns,fs,.int .i64 M,cs])/\2<=k/\j<=xk.length/\o.get 1=some (aR 0 (kF xn.length (xf.map AV.num++(xn.take i).flatMap bS++(xk.take j).map AV.num)))/\
    W=(xS xn.length ((i:Int)+1) (xf.map AV.num++(xn.take i).flatMap bS++(xk.take j).map AV.num) ((xk.drop j).map AV.num)&&lI xn.length xf.length xc (xf.map AV.num++(xn.take (i+1)).flatMap bS) (i+1) (xn.drop (i+1)))) (fun j=>xk.length-j) 0
    ⟨_,_,_,_,rfl,aN @t1,aN @t3,aN @t4,aN @t6,eT,by simp +decide only [g0],aD,Nat.zero_le _,by rw [show (xk.take 0).map AV.num=[] from rfl,List.append_nil];exact by simp +decide only [g1],by rw [hq,show (xk.take 0).map AV.num=[] from rfl,List.append_nil];rfl⟩ ?_
   clear t1 t3 t4 t6 g0 f0 f1 hq hn hn2 g1;clear t;rintro j _ ⟨t,k,low,o,rfl,t1,t3,t4,t6,t7,g0,hk2,hj,g1,hq⟩;have f0:=dQ (show 0<k by omega);have f1:=dQ (show 1<k by omega)
   rcases Nat.lt_or_ge j xk.length with hjt | hjg
   ·obtain ⟨y2,hDy2,hm2,hg2,hd2,hix2,hw2,hc2⟩:=bI (fun x h=>tu_int.len h) hkx hk0.2 hjt
    have hpf2:=fun {d:Option AV}=>tu_int.pf hDy2 (d:=d)
    have hsn:=lW hg2;obtain ⟨z,rfl⟩:=hDy2;rw [show (AV.int .i64 z).num=z from rfl]at hsn;rw [hd2,List.map_cons,xS,show (AV.int .i64 z).num=z from rfl]at hq
    have hsn':xf.map AV.num++(xn.take i).flatMap bS++(xk.take (j+1)).map AV.num=xf.map AV.num++(xn.take i).flatMap bS++(xk.take j).map AV.num++[z]:=by rw [hsn];simp
    generalize xf.map AV.num++(xn.take i).flatMap bS++(xk.take j).map AV.num=L0 at *
    cases k9:inR z ((i:Int)+1) ((xn.length:Int)-1) with
    | false=>
      rw [k9,Bool.false_and,Bool.false_and,Bool.false_and]at hq;exact aLz @t1 @t3 @t6 @t7 @g0 @f0 @ck hn0.iX @hix hk0.lX hk0.iX @hix2 @hc2 @hpf2 @w2 @hw4 @aH @k9 @hq
    | true=>
      rw [k9,Bool.true_and]at hq
      have hb:(i:Int)+1<=z/\z<=(xn.length:Int)-1:=by simpa [inR] using k9
      have hz0:(0<=z)=True:=eq_true aD;have hz1:(z<((xn.length:Nat):Int))=True:=eq_true aD;have hz2:(z.toNat<xn.length)=True:=eq_true aD;have hat:=KD (n:=xn.length) (L:=L0) (show 0<=z by omega) (show z<(xn.length:Int) by omega);have hset:=OD (n:=xn.length) (L:=L0) (show 0<=z by omega) (show z<(xn.length:Int) by omega);by_cases YT:z∈L0
      ·rw [decide_eq_true YT,Bool.not_true,Bool.false_and,Bool.false_and]at hq
       rw [decide_eq_true YT]at hat;simp +contextual +decide (maxSteps:=1000000) only [↓ wP,wQ,tf,wS,t1,t3,t4,t6,t7,g0,g1,f0,f1,ck,hn0.idx,hix,hk0.len,hk0.idx,hix2,hc2,hpf2,w2,hw4,aH,k9,hz0,hz1,hat,Nat.zero_add,Nat.mul_one,hq]
      ·rw [decide_eq_false YT,Bool.not_false,Bool.true_and]at hq
       rw [decide_eq_false YT]at hat;simp +contextual +decide (maxSteps:=1000000) only [↓ wP,wQ,tf,wS,t1,t3,t4,t6,t7,g0,g1,f0,f1,ck,hn0.idx,hix,hk0.len,hk0.idx,hix2,hc2,hpf2,w2,hw4,aH,k9,hz0,hz1,hz2,xR,hat,hset,hw2,Nat.zero_add,Nat.mul_one];exact ⟨j+1,by show _-_<_-_;omega,_,_,_,_,rfl,aN @t1,aN @t3,aN @t4,aN @t6,aG,LF @g0,hk2,hjt,by rw [hsn'];exact aG,by rw [hsn'];exact hq⟩
   ·obtain rfl:j=xk.length:=Nat.le_antisymm hj hjg
    rw [List.take_length,List.append_assoc,<-htk]at g1;rw [List.drop_length,List.map_nil,xS,Bool.true_and]at hq;refine AF @t1 @t6 @t7 @g0 @f0 @ck hn0.iX @hix hk0.lX @bG @hw ?_;exact ⟨i+1,by show _-_<_-_;omega,_,_,_,_,rfl,aN @t1,aN @t3,aN @t4,aG,by simp +decide only [g0],aD,hlt,⟨hk2,by simp +decide only [g1]⟩,hq⟩
  ·obtain rfl:i=xn.length:=Nat.le_antisymm hi hge
   obtain ⟨⟨hn2,g1⟩,hq⟩:=hq;have f1:=dQ (show 1<n by omega);rw [List.take_length]at g1;rw [List.drop_length,lI,List.take_length]at hq;generalize xf.map AV.num++xn.flatMap bS=L0 at *;refine CL @t3 @t6 @bG ?_;have hq1:=hq;have hn1:=hn2;clear hq hn2;refine aM (fun i e=>∃ t n low o,e=⟨133,none,85,t,[],⟨n,low,o⟩,.no⟩/\t.val 3=.int .i64 (xn.length:Nat)/\t.val 4=.sl 1 0 0 xn.length (.is xn.length)/\t.val 9=.int .i64 (i:Nat)/\o.get 1=some (aR 0 (kF xn.length L0))/\2<=n/\i<=xn.length/\2<=n/\W=((kF xn.length L0).drop i).all isT) (fun i=>xn.length-i) 0 ⟨_,_,_,_,rfl,aN @t3,aN @t4,eT,by simp +decide only [g1],aD,Nat.zero_le _,⟨hn1,hq1⟩⟩ ?_;rintro i _ ⟨t,n,low,o,rfl,t3,t4,t9,g1,hn,hi,hq⟩;have f1:=dQ (show 1<n by omega)
   rcases Nat.lt_or_ge i xn.length with hlt | hge
   ·obtain ⟨hn2,hq⟩:=hq
    have hz0:((0:Int)<=(i:Nat))=True:=eq_true aD;have hz1:(((i:Nat):Int)<((xn.length:Nat):Int))=True:=eq_true aD;have hz2:(i<xn.length)=True:=eq_true aD
    have hw:IntKind.i64.wrap (((i:Nat):Int)+1)=((i+1:Nat):Int):=by rw [IntWalk.i64_in _ aD];rfl
    have hat:=KD (n:=xn.length) (L:=L0) (f:=i) aD aD;rw [Int.toNat_natCast]at hat
    have hd:(kF xn.length L0).drop i=.bool (decide ((i:Int)∈L0))::(kF xn.length L0).drop (i+1):=by
     have hi':i<(kF xn.length L0).length:=by rw [xR];exact hlt
     rw [List.drop_eq_getElem_cons hi']
     congr 1
     rw [List.getElem?_eq_getElem hi']at hat;exact Option.some.inj hat
    rw [hd,List.all_cons,show isT (.bool (decide ((i:Int)∈L0)))=decide ((i:Int)∈L0) from rfl]at hq;by_cases YT:(i:Int)∈L0
    ·rw [decide_eq_true YT]at hq hat
     rw [Bool.true_and]at hq;refine BW @t3 @t4 @t9 @g1 @f1 @hz0 @hz1 @hat @hw @Int.toNat_natCast @Nat.zero_add @Nat.mul_one ?_;exact ⟨i+1,by show _-_<_-_;omega,_,_,_,_,rfl,aN @t3,aN @t4,aG,by simp +decide only [g1],aD,hlt,⟨hn2,hq⟩⟩
    ·rw [decide_eq_false YT]at hq hat
     rw [Bool.false_and]at hq;exact vN @t3 @t4 @t9 @g1 @f1 @hz0 @hz1 @hat @Int.toNat_natCast @Nat.zero_add @Nat.mul_one @hq
   ·obtain rfl:i=xn.length:=Nat.le_antisymm hi hge
    obtain ⟨hn2,hq⟩:=hq;rw [List.drop_eq_nil_of_le (by rw [xR];exact Nat.le_refl _),List.all_nil]at hq;exact az4 @t3 @t9 @bG @hq
end
def SU:Nat->AV->Bool
 | 0,_=>true
 | d+1,a=>(a.fld 3).els.all (SU d)&&decide (((a.fld 2).txt.length:Int)<=30)
theorem aFg:∀ {d b:Nat} {a:AV},TPatN d a->TPatN b a->SU d a=SU b a
 | 0,_,_,h,_=>h.elim
 | _,0,_,_,h=>h.elim
 | d+1,b+1,a,h,o=>by
   obtain ⟨x,y,z,u,rfl,_,_,_,xs,m,r⟩:=h;obtain ⟨_,_,_,_,e,_,_,_,k,c,f⟩:=o;cases e
   have:xs=k:=by rw [<-m.els,c.els]
   subst this;have p:((AV.agg [x,y,z,u]).fld 3).els=xs:=m.els;simp only [SU,p];rw [wR fun q l=>aFg (r q l) (f q l)]
abbrev spV (d:Nat):List AV->Option AV:=uS (TPatN d) fun a=>.bool (SU d a)
set_option maxHeartbeats 1000000 in
theorem aOh:∀ d,Abs.Ok Tryz.prog 103 (spV d)
 | 0=>AJ fun a h=>h.elim
 | d+1=>AJ fun a G=>by
   have D:=(cA (d+1) a G).1;obtain ⟨p,r,st,pa,rfl,w,B,⟨s,rfl,T⟩,J⟩:=G;have M:=(tu_int _ w).2;have N:=(tu_int _ B).2;have O:=(hG (jM (cA d)) _ J).2;obtain ⟨xs,c,E⟩:=J;have S:=c.2;refine aF (L:=[ent 103 (spV d)]) (elist_cons (aOh d).ent aE) aL (by kernel_rfl) Tryz.func103 Tryz.ntmps103 Tryz.results103 rfl rfl (aA D.und aC) aI ?_
   have C:SU (d+1) (.agg [p,r,.str s,pa])=(xs.all (SU d)&&decide ((s.length:Int)<=30)):=by
    rw [SU,show ((AV.agg [p,r,.str s,pa]).fld 3).els=xs from c.els];rfl
   generalize SU (d+1) (.agg [p,r,.str s,pa])=W at *;refine CL @M @N @O ?_;refine aM (fun i e=>∃ t n low o,e=⟨22,none,103,t,[],⟨n,low,o⟩,.no⟩/\t.val 1=.ptr 0 0 0/\t.val 3=.int .i64 (i:Nat)/\o.get 0=some (aR 0 [p,r,.str s,pa])/\1<=n/\i<=xs.length/\W=((xs.drop i).all (SU d)&&decide ((s.length:Int)<=30))) (fun i=>xs.length-i) 0 ⟨_,_,_,_,rfl,aG,eT,aG,aD,Nat.zero_le _,C⟩ ?_;rintro i _ ⟨t,n,low,o,rfl,u,F,q,Y,R,b⟩;have v:=dQ (show 0<n by omega)
   rcases Nat.lt_or_ge i xs.length with l | A
   ·obtain ⟨y,f,X,V,Q,k,U,H⟩:=bI (fun x h=>(cA d).len h) E S l
    have m:=fun {P:Option AV}=>(cA d).pf f (d:=P)
    have I:spV d [y]=some (.bool (SU d y)):=cI f;rw [Q,List.all_cons]at b
    cases k1:SU d y with
    | false=>
      rw [k1,Bool.false_and,Bool.false_and]at b;exact vN @u @F @q @v c.lX c.iX @k @H @m @I @k1 @b
    | true=>
      rw [k1,Bool.true_and]at b;refine BW @u @F @q @v c.lX c.iX @k @H @m @I @k1 @U ?_;exact ⟨i+1,by show _-_<_-_;omega,_,_,_,_,rfl,aN @u,aG,by simp +decide only [q],aD,l,b⟩
   ·obtain rfl:i=xs.length:=Nat.le_antisymm R A
    rw [List.drop_length,List.all_nil,Bool.true_and]at b;exact OQ @u @F @q @v c.lX @bG @b
def iW (a:AV):Bool:=decide (pK (depth a) a<=16)&&SU (depth a) a
theorem KE {d:Nat} {a:AV} (h:TPatN d a):iW a=(decide (pK d a<=16)&&SU d a):=by
 have b:=OI ⟨d,h⟩;rw [iW,KN b h,aFg b h]
abbrev zY:List AV->Option AV:=uS wX fun a=>.bool (iW a)
theorem smallPat_ok:Abs.Ok Tryz.prog 68 zY:=AJ fun a c=>by
 have l:=(tk_pat a c).1;obtain ⟨d,c⟩:=c;rw [KE c];have o:spV d [a]=some (.bool (SU d a)):=cI c;have f:wO d [a,.int .i64 16]=some (.int .i64 (wN d a 16)):=sg2_eq ⟨c,_,rfl,aD,aD⟩;have h:=WZ d a 16 c aD;obtain ⟨e,rfl,b,k⟩:=(cA d a c).2
 have p:0+4<=e.length:=by omega
 refine aF (L:=[ent 102 (wO d),ent 103 (spV d)]) (elist_cons (DZ d).ent (elist_cons (aOh d).ent aE)) aL (by kernel_rfl) Tryz.func68 Tryz.ntmps68 Tryz.results68 rfl rfl (aA l.und aC) aI ?_;by_cases k1:pK d (.agg e)<=16
 ·have k2:(wN d (.agg e) 16 ≥ 0)=True:=eq_true (by rw [h];split<;>omega)
  have m:((0:Int)<=wN d (.agg e) 16)=True:=k2;exact OQ @b @k (gD b) @o @f @k1 @k2
 ·have k2:(wN d (.agg e) 16 ≥ 0)=False:=eq_false (by rw [h];split<;>omega)
  have m:((0:Int)<=wN d (.agg e) 16)=False:=k2;exact RD @b @k (gD b) @f @k1 @k2
def mK (x:AV):Bool:=decide (((x.fld 2).els.length:Int)<=10)&&(decide (((x.fld 3).els.length:Int)<=10)&&(x.fld 3).els.all iW)
def xT (x:AV):Bool:=decide (((x.fld 0).txt.length:Int)<=40)
def dP (ns fs cs:List AV):Bool:=decide ((ns.length:Int)<=320)&&(decide ((fs.length:Int)<=320)&&(decide ((cs.length:Int)<=25)&&(cs.all xT&&ns.all mK)))
section
variable {ns fs mm cs:AV}
set_option maxHeartbeats 16000000 in
theorem KF (h:PG ns fs mm cs):Abs.Returns Tryz.prog 25 [pg ns fs mm cs] (.bool (dP ns.els fs.els cs.els)):=by
 obtain ⟨V,X,Y,Z⟩:=h.cells;refine aF (L:=[ent 68 zY]) (elist_cons smallPat_ok.ent aE) aL (by kernel_rfl) Tryz.func25 Tryz.ntmps25 Tryz.results25 rfl rfl (aA h.und.und aC) aI ?_;obtain ⟨r,b,ad⟩:=h.ns;obtain ⟨P,D,ah⟩:=h.fs;obtain ⟨v,c,aa⟩:=h.cs;rw [b.els,D.els,c.els];have l:dP r P v=(decide ((r.length:Int)<=320)&&(decide ((P.length:Int)<=320)&&(decide ((v.length:Int)<=25)&&(v.all xT&&r.all mK)))):=rfl;generalize dP r P v=W at *;by_cases k1:((r.length:Nat):Int) > 320
 ·rw [decide_eq_false (show ¬ ((r.length:Nat):Int)<=320 by omega),Bool.false_and]at l
  exact OQ @V @X @Y @Z b.lX @k1 @l
 by_cases k2:((P.length:Nat):Int) > 320
 ·rw [decide_eq_false (show ¬ ((P.length:Nat):Int)<=320 by omega),Bool.false_and,Bool.and_false]at l
  exact az9 @V @X @Y @Z b.lX D.lX @k1 @k2 @l
 by_cases k3:((v.length:Nat):Int) > 25
 ·rw [decide_eq_false (show ¬ ((v.length:Nat):Int)<=25 by omega),Bool.false_and,Bool.and_false,Bool.and_false]at l
  exact LE @V @X @Y @Z b.lX D.lX c.lX @k1 @k2 @k3 @l
 rw [decide_eq_true (show ((r.length:Nat):Int)<=320 by omega),Bool.true_and,decide_eq_true (show ((P.length:Nat):Int)<=320 by omega),Bool.true_and,decide_eq_true (show ((v.length:Nat):Int)<=25 by omega),Bool.true_and]at l;refine wW @V @X @Y @Z b.lX D.lX c.lX @k1 @k2 @k3 ?_;refine aM (fun i e=>∃ t n low o,e=⟨74,none,25,t,[],⟨n,low,o⟩,.no⟩/\t.val 1=.ptr 0 0 0/\t.val 3=.int .i64 (i:Nat)/\o.get 0=some (aR 0 [ns,fs,mm,cs])/\1<=n/\i<=v.length/\W=((v.drop i).all xT&&r.all mK)) (fun i=>v.length-i) 0 ⟨_,_,_,_,rfl,aG,eT,aG,aD,Nat.zero_le _,l⟩ ?_;rintro i _ ⟨t,n,low,o,rfl,q,t3,p,hn,hi,a⟩;have w:=dQ (show 0<n by omega)
 rcases Nat.lt_or_ge i v.length with A | J
 ·obtain ⟨y,C,hm,hg,hd,u,hw,O⟩:=bI (fun x h=>tk_con.len h) aa c.2 A
  rw [hd,List.all_cons]at a;obtain ⟨_,_,rfl,⟨s,rfl,al⟩,⟨m,rfl⟩⟩:=C;rw [show xT (.agg [.str s,.int .i64 m])=decide ((s.length:Int)<=40) from rfl]at a;by_cases k4:((s.length:Nat):Int) > 40
  ·rw [decide_eq_false (show ¬ ((s.length:Nat):Int)<=40 by omega),Bool.false_and,Bool.false_and]at a
   exact GR @q @t3 @p @w c.lX c.iX @u @O @k4 @a
  ·rw [decide_eq_true (show ((s.length:Nat):Int)<=40 by omega),Bool.true_and]at a
   refine wW @q @t3 @p @w c.lX c.iX @u @O @k4 @hw ?_;exact ⟨i+1,by show _-_<_-_;omega,_,_,_,_,rfl,aN @q,aG,by simp +decide only [p],aD,A,a⟩
 ·obtain rfl:i=v.length:=Nat.le_antisymm hi J
  rw [List.drop_length,List.all_nil,Bool.true_and]at a;refine XK @q @t3 @p @w c.lX @bG ?_;have af:=a;clear a;refine aM (fun i e=>∃ t n low o,e=⟨74,none,25,t,[],⟨n,low,o⟩,.no⟩/\t.val 1=.ptr 0 0 0/\t.val 4=.int .i64 (i:Nat)/\o.get 0=some (aR 0 [ns,fs,mm,cs])/\1<=n/\i<=r.length/\W=(r.drop i).all mK) (fun i=>r.length-i) 0 ⟨_,_,_,_,rfl,aN @q,eT,by simp +decide only [p],aD,Nat.zero_le _,af⟩ ?_;rintro i _ ⟨t,n,low,o,rfl,q,F,p,hn,hi,a⟩;have w:=dQ (show 0<n by omega)
  rcases Nat.lt_or_ge i r.length with A | J
  ·obtain ⟨y,C,hm,hg,hd,u,hw,O⟩:=bI (fun x h=>tk_node.len h) ad b.2 A
   have N:=fun {d:Option AV}=>tk_node.pf C (d:=d)
   rw [hd,List.all_cons]at a;obtain ⟨_,_,ki,pa,rfl,⟨op,rfl⟩,⟨nn,rfl⟩,T,U⟩:=C;have ck:=(aT _ T).2;have cp:=(fG _ U).2;obtain ⟨xk,E,aj⟩:=T;obtain ⟨B,f,ae⟩:=U;rw [show mK (.agg [.int .i64 op,.int .i64 nn,ki,pa])=(decide ((xk.length:Int)<=10)&&(decide ((B.length:Int)<=10)&&B.all iW)) by rw [<-E.els,<-f.els];rfl]at a;by_cases k4:((xk.length:Nat):Int) > 10
   ·rw [decide_eq_false (show ¬ ((xk.length:Nat):Int)<=10 by omega),Bool.false_and,Bool.false_and]at a
    exact aAr @q @F @p @w @ck @cp b.lX b.iX @u @O @N E.lX @k4 @gL @a
   by_cases k5:((B.length:Nat):Int) > 10
   ·rw [decide_eq_false (show ¬ ((B.length:Nat):Int)<=10 by omega),Bool.false_and,Bool.and_false,Bool.false_and]at a
    exact aGl @q @F @p @w @ck @cp b.lX b.iX @u @O @N E.lX @k4 f.lX @k5 @gL @a
   rw [decide_eq_true (show ((xk.length:Nat):Int)<=10 by omega),Bool.true_and,decide_eq_true (show ((B.length:Nat):Int)<=10 by omega),Bool.true_and]at a;refine LD @q @F @p @w @ck @cp b.lX b.iX @u @O @N E.lX @k4 f.lX @k5 @gL ?_
   refine aM (fun j e=>∃ t k low o m,e=⟨74,none,25,t,[],⟨k,low,o⟩,.no⟩/\t.val 1=.ptr 0 0 0/\t.val 4=.int .i64 (i:Nat)/\t.val 5=.ptr m 0 0/\t.val 6=.int .i64 (j:Nat)/\o.get 0=some (aR 0 [ns,fs,mm,cs])/\o.get m=some (aR 0 [.int .i64 op,.int .i64 nn,ki,pa])/\0<k/\m<k/\j<=B.length/\W=((B.drop j).all iW&&(r.drop (i+1)).all mK)) (fun j=>B.length-j) 0
    ⟨_,_,_,_,n,rfl,aN @q,aN @F,aG,eT,ag2 @p @w,aG,aD,aD,Nat.zero_le _,a⟩ ?_
   clear q F p w a hn;clear t;rintro j _ ⟨t,k,low,o,m,rfl,q,F,t5,t6,p,gm,M,S,hj,a⟩;have w:=dQ M;have fm:=dQ S
   rcases Nat.lt_or_ge j B.length with R | ac
   ·obtain ⟨y2,G,ak,ai,ab,H,ag,Q⟩:=bI (fun x h=>tk_pat.len h) ae f.2 R
    have I:=fun {d:Option AV}=>tk_pat.pf G (d:=d)
    have he:zY [y2]=some (.bool (iW y2)):=cI G;rw [ab,List.all_cons]at a
    cases k6:iW y2 with
    | false=>
      rw [k6,Bool.false_and,Bool.false_and]at a;exact vN @t5 @t6 @gm @fm f.lX f.iX @H @Q @I @he @k6 @a
    | true=>
      rw [k6,Bool.true_and]at a;refine BW @t5 @t6 @gm @fm f.lX f.iX @H @Q @I @he @k6 @ag ?_;exact ⟨j+1,by show _-_<_-_;omega,_,_,_,_,_,rfl,aN @q,aN @F,aN @t5,aG,by simp +decide only [p],by simp +decide only [gm],M,S,R,a⟩
   ·obtain rfl:j=B.length:=Nat.le_antisymm hj ac
    rw [List.drop_length,List.all_nil,Bool.true_and]at a;refine XL @F @t5 @t6 @gm @fm f.lX @bG @hw ?_;exact ⟨i+1,by show _-_<_-_;omega,_,_,_,_,rfl,aN @q,aG,by simp +decide only [p],M,A,a⟩
  ·obtain rfl:i=r.length:=Nat.le_antisymm hi J
   rw [List.drop_length,List.all_nil]at a;exact OQ @q @F @p @w b.lX @bG @a
end
end
end Go.Proofs.YtdipddlhenoglaaGreat
