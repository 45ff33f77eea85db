/-
  The program of programs: programs as they are defined, at last.
-/
import Derived.Test.YtifmdaalhclhgaaGreatNx
set_option linter.unusedVariables false
set_option linter.unusedSimpArgs false
namespace Go.Proofs.YtifmdaalhclhgaaGreat
open Go.Abs Go Go.Abs.TryzF
noncomputable section
set_option maxRecDepth 10000
def bZ (x:AV):List Int:=(x.fld 2).els.map AV.num
def dZ (N:Nat):Nat->List AV->Bool
 | _,[]=>true
 | i,x::l=>(bZ x).all (fun k=>inR k ((i:Int)+1) ((N:Int)-1))&&dZ N (i+1) l
def uS (N:Nat) (L:List Int):Bool:=(kP N L).all fun x=>decide (x.num=1)
def aDp (ns fs:List AV):Bool:=(fs.map AV.num).all (fun f=>inR f 0 ((ns.length:Int)-1))&&(dZ ns.length 0 ns&&uS ns.length (fs.map AV.num++ns.flatMap bZ))
def lP (ns fs:List AV) (mm:Int) (cs:List AV):Bool:=
 decide ((ns.length:Int)<=300)&&(decide (1<=(fs.length:Int))&&(decide ((fs.length:Int)<=ns.length)&&(decide ((cs.length:Int)<=20)&&(inR mm 0 ((fs.length:Int)-1) &&
 (cs.all rY&&(decide ((iL [] (cs.map (AV.fld 0))).length=(cs.map (AV.fld 0)).length)&&(ns.all (iS fs.length cs)&&aDp ns fs)))))))
theorem MN {op k:Int} (h:bO op=.fixed k):0<=k/\k<=3:=by
 unfold bO at h;split at h
 ·cases h;omega
 ·split at h
  ·cases h;omega
  ·split at h
   ·cases h;omega
   ·split at h
    ·cases h;omega
    ·split at h
     ·cases h
     ·split at h<;>cases h
theorem RP {nf:Int} {cs:List AV} {x:AV} (h:iS nf cs x=true) (hc:cs.all rY=true):(x.fld 2).els.length<=6:=by
 simp only [iS,Bool.and_eq_true]at h;obtain ⟨_,_,h,_⟩:=h
 cases hk:bO (x.fld 0).num with
 | fixed k=>
   rw [hk]at h;have h1:=MN hk;simp only [kQ,decide_eq_true_eq]at h;omega
 | con=>
   rw [hk]at h;simp only [kQ,Bool.and_eq_true,decide_eq_true_eq,inR]at h;obtain ⟨⟨h1,h2⟩,h3⟩:=h
   have hlt:(x.fld 1).num.toNat<cs.length:=by omega
   have hb:=List.all_eq_true.1 hc _ (List.getElem_mem hlt)
   have he:cs.getD (x.fld 1).num.toNat .top=cs[(x.fld 1).num.toNat]:=by simp [List.getD_eq_getElem?_getD,hlt]
   rw [he]at h3;simp only [rY,inR,Bool.and_eq_true,decide_eq_true_eq]at hb;omega
 | mat=>
   rw [hk]at h;simp only [kQ,Bool.and_eq_true,decide_eq_true_eq,inR]at h;omega
 | none=>rw [hk]at h;cases h
theorem MO {L:List Int} {f:Int} {b:Nat} (h:L.length<=b) (hb:b<=10000):IntKind.i64.wrap (((L.count f:Nat):Int)+1)=((L.count f+1:Nat):Int):=by
 have:=List.count_le_length (a:=f) (l:=L);rw [IntWalk.i64_in _ aE];rfl
theorem YB {l:List AV} (h:∀ x∈l,(x.fld 2).els.length<=6):(l.flatMap bZ).length<=6*l.length:=by
 induction l with
 | nil=>simp
 | cons x l ih=>
   have h1:=h x (List.mem_cons_self ..)
   have h2:=ih fun y hy=>h y (List.mem_cons_of_mem _ hy)
   have h3:(bZ x).length=(x.fld 2).els.length:=by simp [bZ]
   rw [List.flatMap_cons,List.length_append,List.length_cons,h3];omega
theorem RQ (x:AV) (hx:cA x):Abs.Returns Tryz.prog 228 ([]++[x]++[]) (.bool (decide (x.num=1))):=by
 obtain ⟨n,rfl⟩:=hx;show Abs.Returns _ _ [.int .i64 n] (.bool (decide (n=1)));refine aF (L:=[]) aD aN (by kernel_rfl) Tryz.func228 Tryz.ntmps228 Tryz.results228 rfl rfl (aA aT aC) aJ ?_;exact az0
abbrev aJn:AV:=.func (.func 228) [] []
abbrev aDq (P:AV):AV:=.func (.func 226) [P] []
section
variable {ns fs mm cs:AV}
abbrev CW:List AV->Option AV:=nP (fun a b=>qW a/\b=aSm) fun a _=>.bool (a.els.all rY)
theorem everyCon_ok:Abs.Ok Tryz.prog 220 CW:=ok2 fun a b ⟨ha,e⟩=>by
 subst e;exact aKk (first:=[]) (cap:=[]) (fun _ h=>h) _ und_fn aPg ha
abbrev tK (P:AV) (p:AV->Bool):List AV->Option AV:=nP (fun a b=>TSl eK a/\b=aDq P) fun a _=>.bool (a.els.all p)
theorem IM (h:PG ns fs mm cs):Abs.Ok Tryz.prog 225 (tK (pg ns fs mm cs) (iS fs.els.length cs.els)):=ok2 fun a b ⟨ha,e⟩=>by
 subst e;exact aFc (first:=[pg ns fs mm cs]) (cap:=[]) (fun _ h=>h) _ (oY h.und) (aJt h) ha
theorem aJo {N:Nat} {L:List Int} (hN:N<=300) {args:List AV} {s:Sto} (hs:args=[.sl 1 0 0 N (.is N),aJn]/\s.get 1=some (aY 0 (kP N L))):bV Tryz.prog 227 args s (.ret (.bool (uS N L)) none):=by
 obtain ⟨e,hg⟩:=hs;subst e
 have hsl:Sl (.fz (kP N L) false) (kP N L):=⟨.inr ⟨_,rfl⟩,by rw [sA];omega⟩
 have h:=aKl (first:=[]) (cap:=[]) (fun _ h=>h) (fun x=>decide (x.num=1)) und_fn RQ (a:=.fz (kP N L) false) ⟨_,hsl,xF⟩;refine tP h mS ⟨?_,.und _ und_fn.und,trivial⟩
 refine lC (g:=0) (cs:=kP N L) (Nat.zero_le _) hg sA (by rw [sA];omega) (fun x hx=>(tu_int x (xF x hx)).2) fun j x y hx hy=>?_
 rw [Nat.zero_add]at hx;rw [hx]at hy;cases hy;exact .und _ (tu_int x (xF x (List.mem_of_getElem? hx))).1.und
theorem lQ {xs:List AV} {i:Nat} {x:AV} (h:xs[i]?=some x):(xs.take (i+1)).map AV.num=(xs.take i).map AV.num++[x.num]:=by rw [List.take_add_one,h];simp
set_option maxHeartbeats 16000000 in
theorem YC (h:PG ns fs mm cs):Abs.Returns Tryz.prog 176 [pg ns fs mm cs] (.bool (lP ns.els fs.els mm.num cs.els)):=by
 obtain ⟨c1,c2,c3,c4⟩:=h.cells;have hpg:=h;have m1:CW [cs,aSm]=some (.bool (cs.els.all rY)):=sg2_eq ⟨h.cs,rfl⟩
 have m2:cs.els.length<=1000->RV [cs,aDy]=some (aM (cs.els.map (AV.fld 0))):=fun hl=>sg2_eq ⟨h.cs,hl,rfl⟩
 have m3:cs.els.length<=1000->BM [aM (cs.els.map (AV.fld 0))]=some (.bool (decide ((iL [] (cs.els.map (AV.fld 0))).length=(cs.els.map (AV.fld 0)).length))):=fun hl=>by
  have hsl:Sl (aM (cs.els.map (AV.fld 0))) (cs.els.map (AV.fld 0)):=cN (by simp;omega)
  have hstr:∀ x∈cs.els.map (AV.fld 0),rC x:=fun x hx=>by
   obtain ⟨y,hy,rfl⟩:=List.mem_map.1 hx;obtain ⟨xc,hc,hcx⟩:=h.cs;rw [hc.els]at hy;obtain ⟨_,_,rfl,h1,_⟩:=hcx y hy;exact h1
  rw [BM,bX ⟨_,hsl,hstr⟩,hsl.els]
 have m4:tK (pg ns fs mm cs) (iS fs.els.length cs.els) [ns,aDq (pg ns fs mm cs)]=some (.bool (ns.els.all (iS fs.els.length cs.els))):=sg2_eq ⟨h.ns,rfl⟩;obtain ⟨M,hM⟩:=h.mm
 have hL:∀ x∈[ent 219 gP,ent 220 CW,ent 223 RV,ent 222 BM,ent 225 (tK (pg ns fs mm cs) (iS fs.els.length cs.els)),
  entB 227 (fun args s=>ns.els.length<=300/\args=[.sl 1 0 0 ns.els.length (.is ns.els.length),aJn]/\s.get 1=some (aY 0 (kP ns.els.length (fs.els.map AV.num++ns.els.flatMap bZ)))) fun _=>.bool (uS ns.els.length (fs.els.map AV.num++ns.els.flatMap bZ))],cP Tryz.prog x:=
  elist_cons bIn_ok.ent (elist_cons everyCon_ok.ent (elist_cons mapped_ok.ent (elist_cons differ_ok.ent (elist_cons (IM h).ent (elist_cons (entB_ok fun args s hs=>aJo hs.1 hs.2) aD)))))
 refine aF hL aN (by kernel_rfl) Tryz.func176 Tryz.ntmps176 Tryz.results176 rfl rfl (aA h.und.und aC) aJ ?_;subst hM
 have hsp:lP ns.els fs.els (AV.int .i64 M).num cs.els=(decide ((ns.els.length:Int)<=300)&&(decide (1<=(fs.els.length:Int))&&(decide ((fs.els.length:Int)<=ns.els.length)&&(decide ((cs.els.length:Int)<=20)&&(inR M 0 ((fs.els.length:Int)-1) &&
  (cs.els.all rY&&(decide ((iL [] (cs.els.map (AV.fld 0))).length=(cs.els.map (AV.fld 0)).length)&&(ns.els.all (iS fs.els.length cs.els)&&aDp ns.els fs.els)))))))):=rfl
 generalize lP ns.els fs.els (AV.int .i64 M).num cs.els=W at *;obtain ⟨xn,hn0,hnx⟩:=h.ns;obtain ⟨xf,hf0,hfx⟩:=h.fs;obtain ⟨xc,hc0,hcx⟩:=h.cs;have en:=hn0.els;have ef:=hf0.els;have ec:=hc0.els;have w1:=cB hf0.2;have w2:=cB hn0.2;rw [en,ef,ec]at hsp;rw [ec]at m1 m2 m3
 have m4':tK (pg ns fs (.int .i64 M) cs) (iS fs.els.length cs.els) [ns,aDq (pg ns fs (.int .i64 M) cs)]=some (.bool (xn.all (iS xf.length xc))):=by rw [m4,en,ef,ec]
 by_cases k1:((xn.length:Nat):Int) > 300
 ·rw [decide_eq_false (show ¬ ((xn.length:Nat):Int)<=300 by omega),Bool.false_and]at hsp
  exact PX @c1 @c2 @c3 @c4 hn0.lX @k1 @hsp
 by_cases k2:((xf.length:Nat):Int)<1
 ·rw [decide_eq_false (show ¬ 1<=((xf.length:Nat):Int) by omega),Bool.false_and,Bool.and_false]at hsp
  exact az9 @c1 @c2 @c3 @c4 hn0.lX hf0.lX @k1 @k2 @hsp
 by_cases k3:((xf.length:Nat):Int) > ((xn.length:Nat):Int)
 ·rw [decide_eq_false (show ¬ ((xf.length:Nat):Int)<=((xn.length:Nat):Int) by omega),Bool.false_and,Bool.and_false,Bool.and_false]at hsp
  exact JH @c1 @c2 @c3 @c4 hn0.lX hf0.lX @k1 @k2 @k3 @hsp
 by_cases k4:((xc.length:Nat):Int) > 20
 ·rw [decide_eq_false (show ¬ ((xc.length:Nat):Int)<=20 by omega),Bool.false_and,Bool.and_false,Bool.and_false,Bool.and_false]at hsp
  exact vO @c1 @c2 @c3 @c4 hn0.lX hf0.lX hc0.lX @k1 @k2 @k3 @k4 @hsp
 rw [decide_eq_true (show ((xn.length:Nat):Int)<=300 by omega),Bool.true_and,decide_eq_true (show 1<=((xf.length:Nat):Int) by omega),Bool.true_and,decide_eq_true (show ((xf.length:Nat):Int)<=((xn.length:Nat):Int) by omega),Bool.true_and,decide_eq_true (show ((xc.length:Nat):Int)<=20 by omega),Bool.true_and]at hsp;have m2:=m2 aE;have m3:=m3 aE
 cases k5:inR M 0 ((xf.length:Int)-1) with
 | false=>
   rw [k5,Bool.false_and]at hsp;exact NG @c1 @c2 @c3 @c4 hn0.lX hf0.lX hc0.lX @k1 @k2 @k3 @k4 @w1 @aI @k5 @hsp
 | true=>
 rw [k5,Bool.true_and]at hsp
 cases k6:xc.all rY with
 | false=>
   rw [k6,Bool.false_and]at hsp;exact aEs @c1 @c2 @c3 @c4 hn0.lX hf0.lX hc0.lX @k1 @k2 @k3 @k4 @w1 @aI @k5 @m1 @k6 @hsp
 | true=>
 rw [k6,Bool.true_and]at hsp;by_cases k7:(iL [] (xc.map (AV.fld 0))).length=(xc.map (AV.fld 0)).length
 rotate_left
 ·rw [decide_eq_false k7,Bool.false_and]at hsp
  rw [decide_eq_false k7]at m3;exact aKh @c1 @c2 @c3 @c4 hn0.lX hf0.lX hc0.lX @k1 @k2 @k3 @k4 @w1 @aI @k5 @m1 @k6 @m2 @m3 @hsp
 rw [decide_eq_true k7,Bool.true_and]at hsp;rw [decide_eq_true k7]at m3
 cases k8:xn.all (iS xf.length xc) with
 | false=>
   rw [k8,Bool.false_and]at hsp;simp +contextual +decide (maxSteps:=1000000) only [↓ wP,wQ,tf,Nat.reduceAdd,wS,c1,c2,c3,c4,hn0.len,hf0.len,hc0.len,k1,k2,k3,k4,w1,aI,k5,m1,k6,m2,m3,m4',k8,hsp]
 | true=>
 rw [k8,Bool.true_and]at hsp
 have hkl:∀ x∈xn,(x.fld 2).els.length<=6:=fun x hx=>RP (List.all_eq_true.1 k8 x hx) k6
 simp +contextual +decide (maxSteps:=1000000) only [↓ wP,wQ,tf,Nat.reduceAdd,wS,c1,c2,c3,c4,hn0.len,hf0.len,hc0.len,k1,k2,k3,k4,w1,aI,k5,m1,k6,m2,m3,m4',k8,RT (n:=xn.length) aE,cT];rw [aDp]at hsp
 have hN:xn.length<=300:=by omega
 have hcnt:∀ {L:List Int} {f:Int},L.length<=10000->IntKind.i64.wrap (((L.count f:Nat):Int)+1)=((L.count f+1:Nat):Int):=fun h=>MO h (Nat.le_refl _)
 refine aQ (fun i e=>∃ t n low o,e=⟨128,none,176,t,[],⟨n,low,o⟩,.no⟩/\t.val 1=.ptr 0 0 0/\t.val 3=.int .i64 (xn.length:Nat)/\t.val 4=.sl 1 0 0 xn.length (.is xn.length)/\t.val 77=fs/\t.val 78=.int .i64 (xf.length:Nat)/\t.val 79=.int .i64 (i:Nat)/\o.get 0=some (aY 0 [ns,fs,.int .i64 M,cs])/\1<=n/\i<=xf.length/\(2<=n/\o.get 1=some (aY 0 (kP xn.length ((xf.take i).map AV.num))))/\W=(((xf.drop i).map AV.num).all (fun f=>inR f 0 ((xn.length:Int)-1))&&(dZ xn.length 0 xn&&uS xn.length (xf.map AV.num++xn.flatMap bZ)))) (fun i=>xf.length-i) 0 ⟨_,_,_,_,rfl,aG,aG,aG,aG,aG,eP,lS,aE,Nat.zero_le _,⟨⟨aE,by rw [show (xf.take 0).map AV.num=[] from rfl];exact aG⟩,hsp⟩⟩ ?_;rintro i _ ⟨t,n,low,o,rfl,t1,t3,t4,t77,t78,t79,g0,hn,hi,hq⟩;have f0:=bT (show 0<n by omega)
 rcases Nat.lt_or_ge i xf.length with hlt | hge
 ·obtain ⟨⟨hn2,g1⟩,hq⟩:=hq
  have f1:=bT (show 1<n by omega);obtain ⟨y,hDy,hm,hg,hd,hix,hw,hc⟩:=aZ (fun x h=>tu_int.len h) hfx hf0.2 hlt
  have hpf:=fun {d:Option AV}=>tu_int.pf hDy (d:=d)
  have hsn:=lQ hg;obtain ⟨z,rfl⟩:=hDy;rw [show (AV.int .i64 z).num=z from rfl]at hsn;rw [hd,List.map_cons,List.all_cons,show (AV.int .i64 z).num=z from rfl]at hq
  cases k9:inR z 0 ((xn.length:Int)-1) with
  | false=>
    rw [k9,Bool.false_and,Bool.false_and]at hq;exact vO @t3 @t77 @t78 @t79 hf0.iX @hix @hc @hpf @w2 @aI @k9 @hq
  | true=>
    rw [k9,Bool.true_and]at hq
    have hb:0<=z/\z<=(xn.length:Int)-1:=by simpa [inR] using k9
    have hz0:(0<=z)=True:=eq_true hb.1;have hz1:(z<((xn.length:Nat):Int))=True:=eq_true aE;have hz2:(z.toNat<xn.length)=True:=eq_true aE
    have hlen:((xf.take i).map AV.num).length<=10000:=by simp;omega
    generalize (xf.take i).map AV.num=L0 at *;have hat:=VO (n:=xn.length) (L:=L0) hb.1 (show z<(xn.length:Int) by omega);have hset:=MR (n:=xn.length) (L:=L0) hb.1 (show z<(xn.length:Int) by omega);have hw3:=hcnt (f:=z) hlen;simp +contextual +decide (maxSteps:=1000000) only [↓ wP,wQ,tf,wS,t3,t4,t77,t78,t79,g1,f1,hf0.idx,hix,hc,hpf,w2,aI,k9,hz0,hz1,hz2,sA,hat,hset,hw3,hw,Nat.zero_add,Nat.mul_one];exact ⟨i+1,by show _-_<_-_;omega,_,_,_,_,rfl,aP @t1,aP @t3,aP @t4,aP @t77,aP @t78,aG,rB @g0,aE,hlt,⟨⟨hn2,by rw [hsn];exact aG⟩,hq⟩⟩
 ·obtain rfl:i=xf.length:=Nat.le_antisymm hi hge
  obtain ⟨⟨hn2,g1⟩,hq⟩:=hq;have f1:=bT (show 1<n by omega);rw [List.take_length]at g1;rw [List.drop_length,List.map_nil,List.all_nil,Bool.true_and]at hq;refine ap7 @t1 @t78 @t79 @g0 @f0 hn0.lX @aW ?_;have hq1:=hq;have hn1:=hn2;clear hq hn2;refine aQ (fun i e=>∃ t n low o,e=⟨128,none,176,t,[],⟨n,low,o⟩,.no⟩/\t.val 1=.ptr 0 0 0/\t.val 3=.int .i64 (xn.length:Nat)/\t.val 4=.sl 1 0 0 xn.length (.is xn.length)/\t.val 97=ns/\t.val 98=.int .i64 (xn.length:Nat)/\t.val 99=.int .i64 (i:Nat)/\o.get 0=some (aY 0 [ns,fs,.int .i64 M,cs])/\1<=n/\i<=xn.length/\(2<=n/\o.get 1=some (aY 0 (kP xn.length (xf.map AV.num++(xn.take i).flatMap bZ))))/\W=(dZ xn.length i (xn.drop i)&&uS xn.length (xf.map AV.num++xn.flatMap bZ))) (fun i=>xn.length-i) 0 ⟨_,_,_,_,rfl,aP @t1,aP @t3,aP @t4,aG,aG,eP,by simp +decide only [g0],aE,Nat.zero_le _,⟨⟨hn1,by rw [show (xn.take 0).flatMap bZ=[] from rfl,List.append_nil];exact by simp +decide only [g1]⟩,hq1⟩⟩ ?_;rintro i _ ⟨t,n,low,o,rfl,t1,t3,t4,t97,t98,t99,g0,hn,hi,hq⟩;have f0:=bT (show 0<n by omega)
  rcases Nat.lt_or_ge i xn.length with hlt | hge
  ·obtain ⟨⟨hn2,g1⟩,hq⟩:=hq
   have f1:=bT (show 1<n by omega);obtain ⟨y,hDy,hm,hg,hd,hix,hw,hc⟩:=aZ (fun x h=>tk_node.len h) hnx hn0.2 hlt
   have hpf:=fun {d:Option AV}=>tk_node.pf hDy (d:=d)
   rw [hd,dZ]at hq;have hk6:=hkl y hm
   have htk:(xn.take (i+1)).flatMap bZ=(xn.take i).flatMap bZ++bZ y:=by rw [List.take_add_one,hg,List.flatMap_append];simp
   have hfl:((xn.take i).flatMap bZ).length<=6*(xn.take i).length:=YB fun x hx=>hkl x (List.mem_of_mem_take hx)
   obtain ⟨_,_,ki,pa,rfl,⟨op,rfl⟩,⟨nn,rfl⟩,hki,hpa⟩:=hDy;have ck:=(aL _ hki).2;have cp:=(fG _ hpa).2;obtain ⟨xk,hk0,hkx⟩:=hki
   have hkI:bZ (.agg [.int .i64 op,.int .i64 nn,ki,pa])=xk.map AV.num:=by
    rw [bZ,show ((AV.agg [.int .i64 op,.int .i64 nn,ki,pa]).fld 2).els=xk from hk0.els]
   rw [hkI]at hq htk;rw [show ((AV.agg [.int .i64 op,.int .i64 nn,ki,pa]).fld 2).els=xk from hk0.els]at hk6;have hw4:IntKind.i64.wrap (((i:Nat):Int)+1)=((i:Nat):Int)+1:=IntWalk.i64_in _ aE;refine NB @t97 @t98 @t99 @ck @cp hn0.iX @hix @hc @hpf hk0.lX @cT ?_
   refine aQ (fun j e=>∃ t k low o,e=⟨128,none,176,t,[],⟨k,low,o⟩,.no⟩/\t.val 1=.ptr 0 0 0/\t.val 3=.int .i64 (xn.length:Nat)/\t.val 4=.sl 1 0 0 xn.length (.is xn.length)/\t.val 7=.int .i64 (i:Nat)/\t.val 97=ns/\t.val 98=.int .i64 (xn.length:Nat)/\t.val 99=.int .i64 (i:Nat)/\t.val 105=ki/\t.val 106=.int .i64 (xk.length:Nat)/\t.val 107=.int .i64 (j:Nat)/\o.get 0=some (aY 0 [ns,fs,.int .i64 M,cs])/\2<=k/\j<=xk.length/\o.get 1=some (aY 0 (kP xn.length (xf.map AV.num++(xn.take i).flatMap bZ++(xk.take j).map AV.num)))/\
    W=(((xk.drop j).map AV.num).all (fun k=>inR k ((i:Int)+1) ((xn.length:Int)-1))&&(dZ xn.length (i+1) (xn.drop (i+1))&&uS xn.length (xf.map AV.num++xn.flatMap bZ)))) (fun j=>xk.length-j) 0
    ⟨_,_,_,_,rfl,aP @t1,aP @t3,aP @t4,aG,aP @t97,aP @t98,aP @t99,aG,aG,eP,iY @g0 @f0,aE,Nat.zero_le _,by rw [show (xk.take 0).map AV.num=[] from rfl,List.append_nil];exact iY @g1 @f1,by rw [hq,Bool.and_assoc];rfl⟩ ?_
   clear t1 t3 t4 t97 t98 t99 g0 f0 f1 hq hn hn2 g1;clear t;rintro j _ ⟨t,k,low,o,rfl,t1,t3,t4,t7,t97,t98,t99,t105,t106,t107,g0,hk2,hj,g1,hq⟩;have f0:=bT (show 0<k by omega);have f1:=bT (show 1<k by omega)
   rcases Nat.lt_or_ge j xk.length with hjt | hjg
   ·obtain ⟨y2,hDy2,hm2,hg2,hd2,hix2,hw2,hc2⟩:=aZ (fun x h=>tu_int.len h) hkx hk0.2 hjt
    have hpf2:=fun {d:Option AV}=>tu_int.pf hDy2 (d:=d)
    have hsn:=lQ hg2;obtain ⟨z,rfl⟩:=hDy2;rw [show (AV.int .i64 z).num=z from rfl]at hsn;rw [hd2,List.map_cons,List.all_cons,show (AV.int .i64 z).num=z from rfl]at hq
    cases k9:inR z ((i:Int)+1) ((xn.length:Int)-1) with
    | false=>
      rw [k9,Bool.false_and,Bool.false_and]at hq;exact xK @t3 @t7 @t105 @t106 @t107 hk0.iX @hix2 @hc2 @hpf2 @w2 @hw4 @aI @k9 @hq
    | true=>
      rw [k9,Bool.true_and]at hq
      have hb:(i:Int)+1<=z/\z<=(xn.length:Int)-1:=by simpa [inR] using k9
      have hz0:(0<=z)=True:=eq_true aE;have hz1:(z<((xn.length:Nat):Int))=True:=eq_true aE;have hz2:(z.toNat<xn.length)=True:=eq_true aE
      have hlen:(xf.map AV.num++(xn.take i).flatMap bZ++(xk.take j).map AV.num).length<=10000:=by
       simp only [List.length_append,List.length_map,List.length_take]at hfl ⊢;omega
      have hsn':xf.map AV.num++(xn.take i).flatMap bZ++(xk.take (j+1)).map AV.num=xf.map AV.num++(xn.take i).flatMap bZ++(xk.take j).map AV.num++[z]:=by rw [hsn];simp
      generalize xf.map AV.num++(xn.take i).flatMap bZ++(xk.take j).map AV.num=L0 at *;have hat:=VO (n:=xn.length) (L:=L0) (show 0<=z by omega) (show z<(xn.length:Int) by omega);have hset:=MR (n:=xn.length) (L:=L0) (show 0<=z by omega) (show z<(xn.length:Int) by omega);have hw3:=hcnt (f:=z) hlen;simp +contextual +decide (maxSteps:=1000000) only [↓ wP,wQ,tf,wS,t3,t4,t7,t105,t106,t107,g1,f1,hk0.idx,hix2,hc2,hpf2,w2,hw4,aI,k9,hz0,hz1,hz2,sA,hat,hset,hw3,hw2,Nat.zero_add,Nat.mul_one];exact ⟨j+1,by show _-_<_-_;omega,_,_,_,_,rfl,aP @t1,aP @t3,aP @t4,aP @t7,aP @t97,aP @t98,aP @t99,aP @t105,aP @t106,aG,rB @g0,hk2,hjt,by rw [hsn'];exact aG,hq⟩
   ·obtain rfl:j=xk.length:=Nat.le_antisymm hj hjg
    rw [List.take_length,List.append_assoc,<-htk]at g1;rw [List.drop_length,List.map_nil,List.all_nil,Bool.true_and]at hq;refine VV @t99 @t106 @t107 @aW @hw ?_;exact ⟨i+1,by show _-_<_-_;omega,_,_,_,_,rfl,aP @t1,aP @t3,aP @t4,aP @t97,aP @t98,aG,g0,aE,hlt,⟨hk2,g1⟩,hq⟩
  ·obtain rfl:i=xn.length:=Nat.le_antisymm hi hge
   obtain ⟨⟨hn2,g1⟩,hq⟩:=hq;rw [List.take_length]at g1;rw [List.drop_length,dZ,Bool.true_and]at hq
   have he:∀ {low:Nat},bK [entB 227 (fun args s=>ns.els.length<=300/\args=[.sl 1 0 0 ns.els.length (.is ns.els.length),aJn]/\s.get 1=some (aY 0 (kP ns.els.length (fs.els.map AV.num++ns.els.flatMap bZ)))) fun _=>.bool (uS ns.els.length (fs.els.map AV.num++ns.els.flatMap bZ))] 227 [.sl 1 0 0 xn.length (.is xn.length),aJn] ⟨n,low,o⟩=some (.ret (.bool W) none):=fun {low}=>by
    rw [eQ ⟨by rw [en];exact hN,by rw [en],by rw [en,ef,Sto.get_mk aE];exact g1⟩,hq,en,ef]
   exact DO @t4 @t98 @t99 @aW @he
end
def lK (p:AV):Bool:=lP (p.fld 0).els (p.fld 1).els (p.fld 2).num (p.fld 3).els
def oT (p w:AV):Bool:=pX (p.fld 0).els (p.fld 3).els (p.fld 1).els.length (w.fld 0).els (w.fld 1).els (w.fld 2).els (w.fld 3).els (w.fld 4).num
def fW (b:Bool):AV:=.int .i64 (if b=true then 0 else 2)
abbrev IN:List AV->Option AV:=rE fY fun p=>.bool (lK p)
theorem formedV_ok:Abs.Ok Tryz.prog 176 IN:=wD fun a ha=>by
 obtain ⟨ns,fs,mm,cs,rfl,a1,a2,a3,a4⟩:=ha;exact YC ⟨a1,a2,a3,a4⟩
abbrev IO:List AV->Option AV:=rE fY fun p=>fW (lK p)
theorem bCheck_ok:Abs.Ok Tryz.prog 123 IO:=wD fun a ha=>by
 have hua:=(dM a ha).1;have hf:IN [a]=some (.bool (lK a)):=bX ha;obtain ⟨p,q,r,s,rfl,h1,h2,h3,h4⟩:=ha;have c1:=(dI _ h1).2;have c2:=(aL _ h2).2;have c3:=(tu_int _ h3).2;have c4:=(dL _ h4).2;refine aF (L:=[ent 176 IN]) (elist_cons formedV_ok.ent aD) aN (by kernel_rfl) Tryz.func123 Tryz.ntmps123 Tryz.results123 rfl rfl (aA hua.und aC) (by unfold fW;split<;>exact aT) ?_
 cases k:lK (.agg [p,q,r,s]) with
 | false=>simp +contextual +decide (maxSteps:=1000000) only [↓ wP,wQ,tf,Nat.reduceAdd,wS,c1,c2,c3,c4,hf,k,fW]
 | true=>simp +contextual +decide (maxSteps:=1000000) only [↓ wP,wQ,tf,Nat.reduceAdd,wS,c1,c2,c3,c4,hf,k,fW]
abbrev aJp (a b:AV):AV:=.pf (.agg (a.cells++b.cells))
def mO (p w:AV):AV:=if lK p=true then .tuple [aJp p w,.bool (oT p w)] else .tuple [.nilp,.bool false]
abbrev CX:List AV->Option AV:=nP (fun a b=>fY a/\tO b) fun a b=>mO a b
theorem running_ok:Abs.Ok Tryz.prog 77 CX:=ok2 fun a b ⟨ha,hb⟩=>by
 have hua:=(dM a ha).1;have hub:=(tk_wd b hb).1;have hf:IO [a]=some (fW (lK a)):=bX ha;obtain ⟨ns,fs,mm,cs,os,ts,us,is,uu,rfl,rfl,h⟩:=aEe ha hb;obtain ⟨c1,c2,c3,c4,c5,c6,c7,c8,c9⟩:=h.cells;have hw:=aEc h
 have hwl:∀ args s,(args=[.ptr 2 0 0]/\s.get 2=some (aY 0 [ns,fs,mm,cs,os,ts,us,is,uu]))->bV Tryz.prog 124 args s (.ret (.bool (oT (pg ns fs mm cs) (wd os ts us is uu))) none):=fun args s ⟨e,hs⟩=>by
  subst e;refine tP hw mS ⟨JL hs rfl ?_,trivial⟩;intro x hx;simp at hx
  rcases hx with rfl | rfl | rfl | rfl | rfl | rfl | rfl | rfl | rfl
  ·exact (dI _ h.ns).1.und
  ·exact (aL _ h.fs).1.und
  ·exact (tu_int _ h.mm).1.und
  ·exact (dL _ h.cs).1.und
  ·exact (cD _ h.os).1.und
  ·exact (aL _ h.ts).1.und
  ·exact (bJ _ h.us).1.und
  ·exact (aL _ h.is).1.und
  ·exact (tu_int _ h.uu).1.und
 refine bP (L:=[ent 123 IO,entB 124 (fun args s=>args=[.ptr 2 0 0]/\s.get 2=some (aY 0 [ns,fs,mm,cs,os,ts,us,is,uu])) fun _=>.bool (oT (pg ns fs mm cs) (wd os ts us is uu))]) (elist_cons bCheck_ok.ent (elist_cons (entB_ok hwl) aD)) aN (by kernel_rfl) Tryz.func77 Tryz.ntmps77 Tryz.results77 rfl rfl (aA hua.und (aA hub.und aC)) ?_
 have he:∀ {s:Sto},s.get 2=some (aY 0 [ns,fs,mm,cs,os,ts,us,is,uu])->bK [entB 124 (fun args s=>args=[.ptr 2 0 0]/\s.get 2=some (aY 0 [ns,fs,mm,cs,os,ts,us,is,uu])) fun _=>.bool (oT (pg ns fs mm cs) (wd os ts us is uu))] 124 [.ptr 2 0 0] s=some (.ret (.bool (oT (pg ns fs mm cs) (wd os ts us is uu))) none):=fun {s} hs=>eQ ⟨rfl,hs⟩
 cases k:lK (pg ns fs mm cs) with
 | false=>
   simp +contextual +decide (maxSteps:=1000000) only [↓ wP,wQ,tf,Nat.reduceAdd,wS,reduceCtorEq,c1,c2,c3,c4,c5,c6,c7,c8,c9,hf,k,fW];rw [mO,k];exact .und _ (iT (aA OG (aA aJ aC)))
 | true=>
   have hsp1:cE [AV.nils,.nils,.int .i64 0,.nils,.nils,.nils,.nils,.nils,.int .i64 0] 0 [ns,fs,mm,cs]=[ns,fs,mm,cs,.nils,.nils,.nils,.nils,.int .i64 0]:=rfl;have hsp2:cE [ns,fs,mm,cs,.nils,.nils,.nils,.nils,.int .i64 0] 4 [os,ts,us,is,uu]=[ns,fs,mm,cs,os,ts,us,is,uu]:=rfl;simp +contextual +decide (maxSteps:=1000000) only [↓ wP,wQ,tf,Nat.reduceAdd,wS,c1,c2,c3,c4,c5,c6,c7,c8,c9,hf,k,fW,he,hsp1,hsp2];rw [mO,k];refine .tuple _ _ rfl (aU (JL (cs:=[ns,fs,mm,cs,os,ts,us,is,uu]) (lS) rfl ?_) (aU (.und _ aJ) fB));intro x hx;simp at hx
   rcases hx with rfl | rfl | rfl | rfl | rfl | rfl | rfl | rfl | rfl
   ·exact (dI _ h.ns).1.und
   ·exact (aL _ h.fs).1.und
   ·exact (tu_int _ h.mm).1.und
   ·exact (dL _ h.cs).1.und
   ·exact (cD _ h.os).1.und
   ·exact (aL _ h.ts).1.und
   ·exact (bJ _ h.us).1.und
   ·exact (aL _ h.is).1.und
   ·exact (tu_int _ h.uu).1.und
abbrev IP:List AV->Option AV:=nP (fun a b=>fY a/\tO b) fun a b=>fW (lK a&&oT a b)
theorem mCheck_ok:Abs.Ok Tryz.prog 40 IP:=ok2 fun a b ⟨ha,hb⟩=>by
 have hua:=(dM a ha).1;have hub:=(tk_wd b hb).1;have hf:CX [a,b]=some (mO a b):=sg2_eq ⟨ha,hb⟩;obtain ⟨ns,fs,mm,cs,os,ts,us,is,uu,rfl,rfl,h⟩:=aEe ha hb;obtain ⟨c1,c2,c3,c4,c5,c6,c7,c8,c9⟩:=h.cells;refine aF (L:=[ent 77 CX]) (elist_cons running_ok.ent aD) aN (by kernel_rfl) Tryz.func40 Tryz.ntmps40 Tryz.results40 rfl rfl (aA hua.und (aA hub.und aC)) (by unfold fW;split<;>exact aT) ?_
 cases k:lK (pg ns fs mm cs) with
 | false=>simp +contextual +decide (maxSteps:=1000000) only [↓ wP,wQ,tf,Nat.reduceAdd,wS,reduceCtorEq,c1,c2,c3,c4,c5,c6,c7,c8,c9,hf,k,mO,fW]
 | true=>
   cases k2:oT (pg ns fs mm cs) (wd os ts us is uu) with
   | false=>simp +contextual +decide (maxSteps:=1000000) only [↓ wP,wQ,tf,Nat.reduceAdd,wS,c1,c2,c3,c4,c5,c6,c7,c8,c9,hf,k,k2,mO,fW]
   | true=>simp +contextual +decide (maxSteps:=1000000) only [↓ wP,wQ,tf,Nat.reduceAdd,wS,c1,c2,c3,c4,c5,c6,c7,c8,c9,hf,k,k2,mO,fW]
end
end Go.Proofs.YtifmdaalhclhgaaGreat
