/-
  The reference of programs: programs as they are defined.
-/
import Derived.Test.YtkocnhkbgcjpbaaGreatOe
set_option linter.unusedVariables false
set_option linter.unusedSimpArgs false
namespace Go.Proofs.YtkocnhkbgcjpbaaGreat
open Go.Abs Go Go.Abs.TryzF
noncomputable section
set_option maxRecDepth 10000
def kO (n:Nat) (L:List Int):List AV:=(List.range n).map fun i:Nat=>.bool (decide (((i:Nat):Int)∈L))
theorem kE {n:Nat} {L:List Int}:(kO n L).length=n:=by simp [kO]
theorem EP {n:Nat} {L:List Int} {f:Int} (h0:0<=f) (h1:f<n):(kO n L)[f.toNat]?=some (.bool (decide (f∈L))):=by
 have:f.toNat<n:=by omega
 have hf:((f.toNat:Nat):Int)=f:=by omega
 simp [kO,this,hf]
theorem IK {n:Nat} {L:List Int} {f:Int} (h0:0<=f) (h1:f<n):(kO n L).set f.toNat (.bool true)=kO n (L++[f]):=by
 apply List.ext_getElem?
 intro i
 rw [List.getElem?_set]
 simp only [kO,List.length_map,List.length_range,List.getElem?_map]
 by_cases hi:f.toNat=i
 ·subst hi
  have h2:f.toNat<n:=by omega
  have hf:((f.toNat:Nat):Int)=f:=by omega
  simp [h2,hf]
 ·rw [if_neg hi]
  by_cases hin:i<n
  ·have hne:¬ (i:Int)=f:=by omega
   simp [hin,hne]
  ·simp [hin]
theorem IL {n:Nat}:dR [.bool false] n=kO n []:=by
 have h:∀ m,kO m []=List.replicate m (.bool false):=fun m=>by
  simp only [kO,List.not_mem_nil,decide_false]
  exact List.ext_getElem (by simp) fun i h1 h2=>by simp
 induction n with
 | zero=>rfl
 | succ n ih=>
   rw [dR,ih,h,h,List.replicate_succ];rfl
theorem SN {n:Nat} {L:List Int}:∀ x∈kO n L,qX x:=fun x hx=>by obtain ⟨i,_,rfl⟩:=List.mem_map.1 hx;exact ⟨_,rfl⟩
theorem aDd:msK Tryz.prog 31=some (1,1,[.bool false]):=by kernel_rfl
theorem IM {O:bY} {lo co:Operand} {e:Env} {K:ORes->Prop} {n:Nat} (hn:n<=1000) (hl:e.eval lo=.int .i64 (n:Nat)) (hc:e.eval co=.int .i64 (n:Nat)):
 dP Tryz.prog O (.makeSlice 31 lo co) e K↔K (.val' (.sl e.s.n 0 0 n (.is n)) (e.s.push (bA 0 (kO n [])))):=by
 have h:=sW (O:=O) (e:=e) (K:=fun r=>r=.val' (.sl e.s.n 0 0 n (.is n)) (e.s.push (bA 0 (kO n [])))) aDd hl hc (Nat.le_refl n) (by omega) (by omega) (by rw [IL];exact List.all_eq_true.2 fun x hx=>(tu_bool x (SN x hx)).2) (by rw [IL];rfl)
 obtain ⟨m,r,h1,h2⟩:=h
 constructor
 ·rintro ⟨m',r',h1',h2'⟩
  have:eD Tryz.prog (aO Tryz.prog O m') (.makeSlice 31 lo co) e=eD Tryz.prog (aO Tryz.prog O m) (.makeSlice 31 lo co) e:=rfl
  rw [this,h1]at h1'
  cases h1'
  rw [h2]at h2';exact h2'
 ·intro h;exact ⟨m,r,h1,by rw [h2];exact h⟩
def uP (N:Nat) (lo:Int):List Int->List Int->Bool
 | _,[]=>true
 | L,k::l=>(inR k lo ((N:Int)-1) && !decide (k∈L))&&uP N lo (L++[k]) l
def qO:AV->Bool
 | .bool b=>b
 | _=>false
def kP (N:Nat) (nf:Int) (cs:List AV):List Int->Nat->List AV->Bool
 | L,_,[]=>(kO N L).all qO
 | L,i,x::l=>qP nf cs x&&(uP N ((i:Int)+1) L (bT x)&&kP N nf cs (L++bT x) (i+1) l)
def mA (ns fs:List AV) (mm:Int) (cs:List AV):Bool:=
 decide ((ns.length:Int)<=300)&&(inR fs.length 1 ns.length&&(inR mm 0 ((fs.length:Int)-1)&&(qQ cs&&(uP ns.length 0 [] (fs.map AV.num)&&kP ns.length fs.length cs (fs.map AV.num) 0 ns))))
abbrev ME:List AV->Option AV:=sV (fun a b=>fR a/\eB b) fun a b=>.bool (qP (a.fld 1).els.length (a.fld 3).els b)
theorem rnodeV_ok:Abs.Ok Tryz.prog 70 ME:=ok2 fun a b ⟨⟨ns,fs,mm,cs,e,h1,h2,h3,h4⟩,hb⟩=>by
 subst e
 exact XP ⟨h1,h2,h3,h4⟩ b hb
section
variable {ns fs mm cs:AV}
set_option maxHeartbeats 16000000 in
theorem MF (h:PG ns fs mm cs) (hcl:cs.els.length<=1000):Abs.Returns Tryz.prog 36 [pg ns fs mm cs] (.bool (mA ns.els fs.els mm.num cs.els)):=by
 obtain ⟨c1,c2,c3,c4⟩:=h.cells
 have hpg:=h
 have m1:MK [cs]=some (.bool (qQ cs.els)):=bU ⟨h.cs,hcl⟩
 have m2:∀ {x:AV},eB x->ME [pg ns fs mm cs,x]=some (.bool (qP fs.els.length cs.els x)):=fun hx=>sg2_eq ⟨⟨_,_,_,_,rfl,h.ns,h.fs,h.mm,h.cs⟩,hx⟩
 obtain ⟨M,hM⟩:=h.mm
 refine aH (L:=[ent 68 gK,ent 69 MK,ent 70 ME]) (elist_cons rIn5_ok.ent (elist_cons rcons_ok.ent (elist_cons rnodeV_ok.ent aG))) (fun r=>(bif Nat.beq r 14 then [6] else [],[])) (by kernel_rfl) Tryz.func36 Tryz.ntmps36 Tryz.results36 rfl rfl (aA h.und.und aF) aJ ?_
 subst hM
 have hsp:mA ns.els fs.els (AV.int .i64 M).num cs.els=(decide ((ns.els.length:Int)<=300)&&(inR fs.els.length 1 ns.els.length&&(inR M 0 ((fs.els.length:Int)-1)&&(qQ cs.els&&(uP ns.els.length 0 [] (fs.els.map AV.num)&&kP ns.els.length fs.els.length cs.els (fs.els.map AV.num) 0 ns.els))))):=rfl
 generalize mA ns.els fs.els (AV.int .i64 M).num cs.els=W at *
 obtain ⟨xn,hn0,hnx⟩:=h.ns
 obtain ⟨xf,hf0,hfx⟩:=h.fs
 obtain ⟨xc,hc0,hcx⟩:=h.cs
 have en:=hn0.els
 have ef:=hf0.els
 have ec:=hc0.els
 have w1:=bW hf0.2
 have w2:=bW hn0.2
 rw [en,ef,ec]at hsp
 rw [ec]at m1
 rw [ef,ec]at m2
 by_cases k1:((xn.length:Nat):Int) > 300
 ·rw [decide_eq_false (show ¬ ((xn.length:Nat):Int)<=300 by omega),Bool.false_and]at hsp
  simp +contextual +decide (maxSteps:=1000000) only [↓ wP,wQ,tf,Nat.reduceAdd,wS,reduceCtorEq,c1,c2,c3,c4,hn0.len,k1,hsp]
 rw [decide_eq_true (show ((xn.length:Nat):Int)<=300 by omega),Bool.true_and]at hsp
 cases k2:inR (xf.length:Nat) 1 (xn.length:Nat) with
 | false=>
   rw [k2,Bool.false_and]at hsp
   simp +contextual +decide (maxSteps:=1000000) only [↓ wP,wQ,tf,Nat.reduceAdd,wS,reduceCtorEq,c1,c2,c3,c4,hn0.len,hf0.len,hf0.stab,k1,aL,k2,hsp]
 | true=>
 rw [k2,Bool.true_and]at hsp
 cases k5:inR M 0 ((xf.length:Int)-1) with
 | false=>
   rw [k5,Bool.false_and]at hsp
   simp +contextual +decide (maxSteps:=1000000) only [↓ wP,wQ,tf,Nat.reduceAdd,wS,reduceCtorEq,c1,c2,c3,c4,hn0.len,hf0.len,hf0.stab,k1,k2,w1,aL,k5,hsp]
 | true=>
 rw [k5,Bool.true_and]at hsp
 cases k6:qQ xc with
 | false=>
   rw [k6,Bool.false_and]at hsp
   simp +contextual +decide (maxSteps:=1000000) only [↓ wP,wQ,tf,Nat.reduceAdd,wS,reduceCtorEq,c1,c2,c3,c4,hn0.len,hf0.len,hf0.stab,k1,k2,w1,aL,k5,m1,k6,hsp]
 | true=>
 rw [k6,Bool.true_and]at hsp
 simp +contextual +decide (maxSteps:=1000000) only [↓ wP,wQ,tf,Nat.reduceAdd,wS,reduceCtorEq,c1,c2,c3,c4,hn0.len,hf0.len,hf0.stab,k1,k2,w1,aL,k5,m1,k6,IM (n:=xn.length) (by omega),Sto.push_mk,cP]
 have hN:xn.length<=300:=by omega
 refine aU (fun i e=>∃ t n low o,e=⟨133,none,36,t,[],⟨n,low,o⟩,.no⟩/\t.val 1=.ptr 0 0 0/\t.val 3=.int .i64 (xn.length:Nat)/\t.val 4=.sl 1 0 0 xn.length (.is xn.length)/\t.val 5=.int .i64 (i:Nat)/\o.get 0=some (bA 0 [ns,fs,.int .i64 M,cs])/\1<=n/\i<=xf.length/\(2<=n/\o.get 1=some (bA 0 (kO xn.length ((xf.take i).map AV.num))))/\W=(uP xn.length 0 ((xf.take i).map AV.num) ((xf.drop i).map AV.num)&&kP xn.length xf.length xc (xf.map AV.num) 0 xn)) (fun i=>xf.length-i) 0 ⟨_,_,_,_,rfl,by simp +decide only [↓ aB,aE,aC],by simp +decide only [↓ aB,aE,aC],by simp +decide only [↓ aB,aE,aC],by simp +decide only [↓ aB,aE,aC];rfl,by simp +decide only [↓ aB,aI,aC,ne_eq],by omega,Nat.zero_le _,⟨⟨by omega,by rw [show (xf.take 0).map AV.num=[] from rfl];exact by simp +decide only [↓ aB,aI,aC,ne_eq]⟩,hsp⟩⟩ ?_
 rintro i _ ⟨t,n,low,o,rfl,t1,t3,t4,t5,g0,hn,hi,hq⟩
 have f0:=cT (show 0<n by omega)
 rcases Nat.lt_or_ge i xf.length with hlt | hge
 ·obtain ⟨⟨hn2,g1⟩,hq⟩:=hq
  have f1:=cT (show 1<n by omega)
  obtain ⟨y,hDy,hm,hg,hd,hix,hw,hc⟩:=bF (fun x h=>tu_int.len h) hfx hf0.2 hlt
  have hpf:=fun {d:Option AV}=>tu_int.pf hDy (d:=d)
  have hsn:=lG hg
  obtain ⟨z,rfl⟩:=hDy
  rw [show (AV.int .i64 z).num=z from rfl]at hsn
  rw [hd,List.map_cons,uP,show (AV.int .i64 z).num=z from rfl]at hq
  generalize (xf.take i).map AV.num=L0 at *
  cases k9:inR z 0 ((xn.length:Int)-1) with
  | false=>
    rw [k9,Bool.false_and,Bool.false_and,Bool.false_and]at hq
    simp +contextual +decide (maxSteps:=1000000) only [↓ wP,wQ,tf,Nat.reduceAdd,wS,reduceCtorEq,t1,t3,t4,t5,g0,g1,f0,f1,c1,c2,c3,c4,hf0.len,hf0.idx,hix,hc,hpf,w2,aL,k9,hq]
  | true=>
    rw [k9,Bool.true_and]at hq
    have hb:0<=z/\z<=(xn.length:Int)-1:=by simpa [inR] using k9
    have hz0:(0<=z)=True:=eq_true hb.1
    have hz1:(z<((xn.length:Nat):Int))=True:=eq_true (by omega)
    have hz2:(z.toNat<xn.length)=True:=eq_true (by omega)
    have hat:=EP (n:=xn.length) (L:=L0) hb.1 (show z<(xn.length:Int) by omega)
    have hset:=IK (n:=xn.length) (L:=L0) hb.1 (show z<(xn.length:Int) by omega)
    by_cases PN:z∈L0
    ·rw [decide_eq_true PN,Bool.not_true,Bool.false_and,Bool.false_and]at hq
     rw [decide_eq_true PN]at hat
     simp +contextual +decide (maxSteps:=1000000) only [↓ wP,wQ,tf,Nat.reduceAdd,wS,reduceCtorEq,t1,t3,t4,t5,g0,g1,f0,f1,c1,c2,c3,c4,hf0.len,hf0.idx,hix,hc,hpf,w2,aL,k9,hz0,hz1,hz2,kE,hat,Nat.zero_add,Nat.mul_one,hq]
    ·rw [decide_eq_false PN,Bool.not_false,Bool.true_and]at hq
     rw [decide_eq_false PN]at hat
     simp +contextual +decide (maxSteps:=1000000) only [↓ wP,wQ,tf,Nat.reduceAdd,wS,reduceCtorEq,t1,t3,t4,t5,g0,g1,f0,f1,c1,c2,c3,c4,hf0.len,hf0.idx,hix,hc,hpf,w2,aL,k9,hz0,hz1,hz2,kE,hat,hset,hw,Nat.zero_add,Nat.mul_one,Sto.put_any]
     exact ⟨i+1,by show _-_<_-_;omega,_,_,_,_,rfl,by simp +decide only [↓ aB,aE,aC,t1],by simp +decide only [↓ aB,aE,aC,t3],by simp +decide only [↓ aB,aE,aC,t4],by simp +decide only [↓ aB,aE,aC],by simp +decide only [↓ aB,aI,aC,ne_eq,g0,f0,cP],by omega,hlt,⟨⟨hn2,by rw [hsn];exact by simp +decide only [↓ aB,aI,aC,ne_eq,f1]⟩,by rw [hsn];exact hq⟩⟩
 ·obtain rfl:i=xf.length:=Nat.le_antisymm hi hge
  obtain ⟨⟨hn2,g1⟩,hq⟩:=hq
  have f1:=cT (show 1<n by omega)
  rw [List.take_length]at g1
  rw [List.drop_length,List.map_nil,uP,Bool.true_and]at hq
  simp +contextual +decide (maxSteps:=1000000) only [↓ wP,wQ,tf,Nat.reduceAdd,wS,reduceCtorEq,t1,t3,t4,t5,g0,f0,c1,c2,c3,c4,hf0.len,bC]
  have hq1:=hq
  have hn1:=hn2
  clear hq hn2
  refine aU (fun i e=>∃ t n low o,e=⟨133,none,36,t,[],⟨n,low,o⟩,.no⟩/\t.val 1=.ptr 0 0 0/\t.val 3=.int .i64 (xn.length:Nat)/\t.val 4=.sl 1 0 0 xn.length (.is xn.length)/\t.val 6=.int .i64 (i:Nat)/\o.get 0=some (bA 0 [ns,fs,.int .i64 M,cs])/\1<=n/\i<=xn.length/\(2<=n/\o.get 1=some (bA 0 (kO xn.length (xf.map AV.num++(xn.take i).flatMap bT))))/\W=kP xn.length xf.length xc (xf.map AV.num++(xn.take i).flatMap bT) i (xn.drop i)) (fun i=>xn.length-i) 0 ⟨_,_,_,_,rfl,by simp +decide only [↓ aB,aE,aC,t1,t3,t4,g0,f0],by simp +decide only [↓ aB,aE,aC,t1,t3,t4,g0,f0],by simp +decide only [↓ aB,aE,aC,t1,t3,t4,g0,f0],by simp +decide only [↓ aB,aE,aC,t1,t3,t4,g0,f0];rfl,by simp +decide only [↓ aB,aI,aC,ne_eq,t1,t3,t4,g0,f0],by omega,Nat.zero_le _,⟨⟨hn1,by rw [show (xn.take 0).flatMap bT=[] from rfl,List.append_nil];exact by simp +decide only [↓ aB,aI,aC,ne_eq,g1,f1]⟩,by rw [show (xn.take 0).flatMap bT=[] from rfl,List.append_nil];exact hq1⟩⟩ ?_
  rintro i _ ⟨t,n,low,o,rfl,t1,t3,t4,t6,g0,hn,hi,hq⟩
  have f0:=cT (show 0<n by omega)
  rcases Nat.lt_or_ge i xn.length with hlt | hge
  ·obtain ⟨⟨hn2,g1⟩,hq⟩:=hq
   have f1:=cT (show 1<n by omega)
   obtain ⟨y,hDy,hm,hg,hd,hix,hw,hc⟩:=bF (fun x h=>tk_node.len h) hnx hn0.2 hlt
   have hpf:=fun {d:Option AV}=>tk_node.pf hDy (d:=d)
   have htk:(xn.take (i+1)).flatMap bT=(xn.take i).flatMap bT++bT y:=by rw [List.take_add_one,hg,List.flatMap_append];simp
   have m3:=m2 hDy
   rw [hd,kP,List.append_assoc,<-htk]at hq
   obtain ⟨_,_,ki,pa,rfl,⟨op,rfl⟩,⟨nn,rfl⟩,hki,hpa⟩:=hDy
   have ck:=(aP _ hki).2
   have cp:=(fE _ hpa).2
   obtain ⟨xk,hk0,hkx⟩:=hki
   have hkI:bT (.agg [.int .i64 op,.int .i64 nn,ki,pa])=xk.map AV.num:=by
    rw [bT,show ((AV.agg [.int .i64 op,.int .i64 nn,ki,pa]).fld 2).els=xk from hk0.els]
   rw [hkI]at hq htk
   have hw4:IntKind.i64.wrap (((i:Nat):Int)+1)=((i:Nat):Int)+1:=IntWalk.i64_in _ (by omega)
   cases k9:qP xf.length xc (.agg [.int .i64 op,.int .i64 nn,ki,pa]) with
   | false=>
     rw [k9,Bool.false_and]at hq
     simp +contextual +decide (maxSteps:=1000000) only [↓ wP,wQ,tf,Nat.reduceAdd,wS,reduceCtorEq,t1,t3,t4,t6,g0,f0,c1,c2,c3,c4,ck,cp,hn0.idx,hix,hc,hpf,m3,k9,hq]
   | true=>
   rw [k9,Bool.true_and]at hq
   simp +contextual +decide (maxSteps:=1000000) only [↓ wP,wQ,tf,Nat.reduceAdd,wS,reduceCtorEq,t1,t3,t4,t6,g0,f0,c1,c2,c3,c4,ck,cp,hn0.idx,hix,hc,hpf,m3,k9]
   refine aU (fun j e=>∃ t k low o,e=⟨133,none,36,t,[],⟨k,low,o⟩,.no⟩/\t.val 1=.ptr 0 0 0/\t.val 3=.int .i64 (xn.length:Nat)/\t.val 4=.sl 1 0 0 xn.length (.is xn.length)/\t.val 6=.int .i64 (i:Nat)/\t.val 7=.int .i64 (j:Nat)/\o.get 0=some (bA 0 [ns,fs,.int .i64 M,cs])/\2<=k/\j<=xk.length/\o.get 1=some (bA 0 (kO xn.length (xf.map AV.num++(xn.take i).flatMap bT++(xk.take j).map AV.num)))/\
    W=(uP xn.length ((i:Int)+1) (xf.map AV.num++(xn.take i).flatMap bT++(xk.take j).map AV.num) ((xk.drop j).map AV.num)&&kP xn.length xf.length xc (xf.map AV.num++(xn.take (i+1)).flatMap bT) (i+1) (xn.drop (i+1)))) (fun j=>xk.length-j) 0
    ⟨_,_,_,_,rfl,by simp +decide only [↓ aB,aE,aC,t1],by simp +decide only [↓ aB,aE,aC,t3],by simp +decide only [↓ aB,aE,aC,t4],by simp +decide only [↓ aB,aE,aC,t6],by simp +decide only [↓ aB,aE,aC];rfl,by simp +decide only [↓ aB,aI,aC,ne_eq,g0,f0,cP],by omega,Nat.zero_le _,by rw [show (xk.take 0).map AV.num=[] from rfl,List.append_nil];exact by simp +decide only [↓ aB,aI,aC,ne_eq,g1,f1,cP],by rw [hq,show (xk.take 0).map AV.num=[] from rfl,List.append_nil];rfl⟩ ?_
   clear t1 t3 t4 t6 g0 f0 f1 hq hn hn2 g1
   clear t
   rintro j _ ⟨t,k,low,o,rfl,t1,t3,t4,t6,t7,g0,hk2,hj,g1,hq⟩
   have f0:=cT (show 0<k by omega)
   have f1:=cT (show 1<k by omega)
   rcases Nat.lt_or_ge j xk.length with hjt | hjg
   ·obtain ⟨y2,hDy2,hm2,hg2,hd2,hix2,hw2,hc2⟩:=bF (fun x h=>tu_int.len h) hkx hk0.2 hjt
    have hpf2:=fun {d:Option AV}=>tu_int.pf hDy2 (d:=d)
    have hsn:=lG hg2
    obtain ⟨z,rfl⟩:=hDy2
    rw [show (AV.int .i64 z).num=z from rfl]at hsn
    rw [hd2,List.map_cons,uP,show (AV.int .i64 z).num=z from rfl]at hq
    have hsn':xf.map AV.num++(xn.take i).flatMap bT++(xk.take (j+1)).map AV.num=xf.map AV.num++(xn.take i).flatMap bT++(xk.take j).map AV.num++[z]:=by rw [hsn];simp
    generalize xf.map AV.num++(xn.take i).flatMap bT++(xk.take j).map AV.num=L0 at *
    cases k9:inR z ((i:Int)+1) ((xn.length:Int)-1) with
    | false=>
      rw [k9,Bool.false_and,Bool.false_and,Bool.false_and]at hq
      simp +contextual +decide (maxSteps:=1000000) only [↓ wP,wQ,tf,Nat.reduceAdd,wS,reduceCtorEq,t1,t3,t4,t6,t7,g0,g1,f0,f1,c1,c2,c3,c4,ck,cp,hn0.idx,hix,hk0.len,hk0.idx,hix2,hc2,hpf2,w2,hw4,aL,k9,hq]
    | true=>
      rw [k9,Bool.true_and]at hq
      have hb:(i:Int)+1<=z/\z<=(xn.length:Int)-1:=by simpa [inR] using k9
      have hz0:(0<=z)=True:=eq_true (by omega)
      have hz1:(z<((xn.length:Nat):Int))=True:=eq_true (by omega)
      have hz2:(z.toNat<xn.length)=True:=eq_true (by omega)
      have hat:=EP (n:=xn.length) (L:=L0) (show 0<=z by omega) (show z<(xn.length:Int) by omega)
      have hset:=IK (n:=xn.length) (L:=L0) (show 0<=z by omega) (show z<(xn.length:Int) by omega)
      by_cases PN:z∈L0
      ·rw [decide_eq_true PN,Bool.not_true,Bool.false_and,Bool.false_and]at hq
       rw [decide_eq_true PN]at hat
       simp +contextual +decide (maxSteps:=1000000) only [↓ wP,wQ,tf,Nat.reduceAdd,wS,reduceCtorEq,t1,t3,t4,t6,t7,g0,g1,f0,f1,c1,c2,c3,c4,ck,cp,hn0.idx,hix,hk0.len,hk0.idx,hix2,hc2,hpf2,w2,hw4,aL,k9,hz0,hz1,hz2,kE,hat,Nat.zero_add,Nat.mul_one,hq]
      ·rw [decide_eq_false PN,Bool.not_false,Bool.true_and]at hq
       rw [decide_eq_false PN]at hat
       simp +contextual +decide (maxSteps:=1000000) only [↓ wP,wQ,tf,Nat.reduceAdd,wS,reduceCtorEq,t1,t3,t4,t6,t7,g0,g1,f0,f1,c1,c2,c3,c4,ck,cp,hn0.idx,hix,hk0.len,hk0.idx,hix2,hc2,hpf2,w2,hw4,aL,k9,hz0,hz1,hz2,kE,hat,hset,hw2,Nat.zero_add,Nat.mul_one,Sto.put_any]
       exact ⟨j+1,by show _-_<_-_;omega,_,_,_,_,rfl,by simp +decide only [↓ aB,aE,aC,t1],by simp +decide only [↓ aB,aE,aC,t3],by simp +decide only [↓ aB,aE,aC,t4],by simp +decide only [↓ aB,aE,aC,t6],by simp +decide only [↓ aB,aE,aC],by simp +decide only [↓ aB,aI,aC,ne_eq,g0,f0],hk2,hjt,by rw [hsn'];exact by simp +decide only [↓ aB,aI,aC,ne_eq,f1],by rw [hsn'];exact hq⟩
   ·obtain rfl:j=xk.length:=Nat.le_antisymm hj hjg
    rw [List.take_length,List.append_assoc,<-htk]at g1
    rw [List.drop_length,List.map_nil,uP,Bool.true_and]at hq
    simp +contextual +decide (maxSteps:=1000000) only [↓ wP,wQ,tf,Nat.reduceAdd,wS,reduceCtorEq,t1,t3,t4,t6,t7,g0,f0,c1,c2,c3,c4,ck,cp,hn0.idx,hix,hk0.len,bC,hw]
    exact ⟨i+1,by show _-_<_-_;omega,_,_,_,_,rfl,by simp +decide only [↓ aB,aE,aC,t1],by simp +decide only [↓ aB,aE,aC,t3],by simp +decide only [↓ aB,aE,aC,t4],by simp +decide only [↓ aB,aE,aC],by simp +decide only [↓ aB,aI,aC,ne_eq,g0,f0],by omega,hlt,⟨hk2,by simp +decide only [↓ aB,aI,aC,ne_eq,g1,f1]⟩,hq⟩
  ·obtain rfl:i=xn.length:=Nat.le_antisymm hi hge
   obtain ⟨⟨hn2,g1⟩,hq⟩:=hq
   have f1:=cT (show 1<n by omega)
   rw [List.take_length]at g1
   rw [List.drop_length,kP,List.take_length]at hq
   generalize xf.map AV.num++xn.flatMap bT=L0 at *
   simp +contextual +decide (maxSteps:=1000000) only [↓ wP,wQ,tf,Nat.reduceAdd,wS,reduceCtorEq,t1,t3,t4,t6,bC]
   have hq1:=hq
   have hn1:=hn2
   clear hq hn2
   refine aU (fun i e=>∃ t n low o,e=⟨133,none,36,t,[],⟨n,low,o⟩,.no⟩/\t.val 3=.int .i64 (xn.length:Nat)/\t.val 4=.sl 1 0 0 xn.length (.is xn.length)/\t.val 9=.int .i64 (i:Nat)/\o.get 1=some (bA 0 (kO xn.length L0))/\2<=n/\i<=xn.length/\2<=n/\W=((kO xn.length L0).drop i).all qO) (fun i=>xn.length-i) 0 ⟨_,_,_,_,rfl,by simp +decide only [↓ aB,aE,aC,t3,t4,g1,f1],by simp +decide only [↓ aB,aE,aC,t3,t4,g1,f1],by simp +decide only [↓ aB,aE,aC,t3,t4,g1,f1];rfl,by simp +decide only [↓ aB,aI,aC,ne_eq,t3,t4,g1,f1],by omega,Nat.zero_le _,⟨hn1,hq1⟩⟩ ?_
   rintro i _ ⟨t,n,low,o,rfl,t3,t4,t9,g1,hn,hi,hq⟩
   have f1:=cT (show 1<n by omega)
   rcases Nat.lt_or_ge i xn.length with hlt | hge
   ·obtain ⟨hn2,hq⟩:=hq
    have hz0:((0:Int)<=(i:Nat))=True:=eq_true (by omega)
    have hz1:(((i:Nat):Int)<((xn.length:Nat):Int))=True:=eq_true (by omega)
    have hz2:(i<xn.length)=True:=eq_true (by omega)
    have hw:IntKind.i64.wrap (((i:Nat):Int)+1)=((i+1:Nat):Int):=by rw [IntWalk.i64_in _ (by omega)];rfl
    have hat:=EP (n:=xn.length) (L:=L0) (f:=i) (by omega) (by omega)
    rw [Int.toNat_natCast]at hat
    have hd:(kO xn.length L0).drop i=.bool (decide ((i:Int)∈L0))::(kO xn.length L0).drop (i+1):=by
     have hi':i<(kO xn.length L0).length:=by rw [kE];exact hlt
     rw [List.drop_eq_getElem_cons hi']
     congr 1
     rw [List.getElem?_eq_getElem hi']at hat
     exact Option.some.inj hat
    rw [hd,List.all_cons,show qO (.bool (decide ((i:Int)∈L0)))=decide ((i:Int)∈L0) from rfl]at hq
    by_cases PN:(i:Int)∈L0
    ·rw [decide_eq_true PN]at hq hat
     rw [Bool.true_and]at hq
     simp +contextual +decide (maxSteps:=1000000) only [↓ wP,wQ,tf,Nat.reduceAdd,wS,reduceCtorEq,t3,t4,t9,g1,f1,hz0,hz1,hz2,kE,hat,hw,Int.toNat_natCast,Nat.zero_add,Nat.mul_one]
     exact ⟨i+1,by show _-_<_-_;omega,_,_,_,_,rfl,by simp +decide only [↓ aB,aE,aC,t3],by simp +decide only [↓ aB,aE,aC,t4],by simp +decide only [↓ aB,aE,aC],by simp +decide only [↓ aB,aI,aC,ne_eq,g1,f1,cP],by omega,hlt,⟨hn2,hq⟩⟩
    ·rw [decide_eq_false PN]at hq hat
     rw [Bool.false_and]at hq
     simp +contextual +decide (maxSteps:=1000000) only [↓ wP,wQ,tf,Nat.reduceAdd,wS,reduceCtorEq,t3,t4,t9,g1,f1,hz0,hz1,hz2,kE,hat,hw,Int.toNat_natCast,Nat.zero_add,Nat.mul_one,hq]
   ·obtain rfl:i=xn.length:=Nat.le_antisymm hi hge
    obtain ⟨hn2,hq⟩:=hq
    rw [List.drop_eq_nil_of_le (by rw [kE];exact Nat.le_refl _),List.all_nil]at hq
    simp +contextual +decide (maxSteps:=1000000) only [↓ wP,wQ,tf,Nat.reduceAdd,wS,reduceCtorEq,t3,t4,t9,bC,hq]
end
end
end Go.Proofs.YtkocnhkbgcjpbaaGreat
/-
 The references of terms and programs: what is small.
-/
namespace Go.Proofs.YtkocnhkbgcjpbaaGreat
open Go.Abs Go Go.Abs.TryzF
noncomputable section
set_option maxRecDepth 10000
def MG:Nat->AV->Bool
 | 0,_=>true
 | d+1,a=>(a.fld 3).els.all (MG d)&&decide (((a.fld 2).txt.length:Int)<=30)
theorem XO:∀ {d d':Nat} {a:AV},TPatN d a->TPatN d' a->MG d a=MG d' a
 | 0,_,_,h,_=>h.elim
 | _,0,_,_,h=>h.elim
 | d+1,d'+1,a,h,h'=>by
   obtain ⟨x,y,z,u,rfl,_,_,_,xs,hs,hx⟩:=h
   obtain ⟨_,_,_,_,e,_,_,_,xs',hs',hx'⟩:=h'
   cases e
   have:xs=xs':=by rw [<-hs.els,hs'.els]
   subst this
   have hu:((AV.agg [x,y,z,u]).fld 3).els=xs:=hs.els
   simp only [MG,hu]
   rw [tN fun q hq=>XO (hx q hq) (hx' q hq)]
abbrev spV (d:Nat):List AV->Option AV:=qY (TPatN d) fun a=>.bool (MG d a)
set_option maxHeartbeats 1000000 in
theorem aGs:∀ d,Abs.Ok Tryz.prog 50 (spV d)
 | 0=>wA fun a h=>h.elim
 | d+1=>wA fun a ha=>by
   have hua:=(cG (d+1) a ha).1
   obtain ⟨fo,nu,st,pa,rfl,hfo,hnu,⟨s,rfl,hst⟩,hp⟩:=ha
   have c1:=(tu_int _ hfo).2
   have c2:=(tu_int _ hnu).2
   have cp:=(gR (iW (cG d)) _ hp).2
   obtain ⟨xs,hs,hxs⟩:=hp
   have hl:=hs.2
   refine aH (L:=[ent 50 (spV d)]) (elist_cons (aGs d).ent aG) aM (by kernel_rfl) Tryz.func50 Tryz.ntmps50 Tryz.results50 rfl rfl (aA hua.und aF) aJ ?_
   have hsp:MG (d+1) (.agg [fo,nu,.str s,pa])=(xs.all (MG d)&&decide ((s.length:Int)<=30)):=by
    rw [MG,show ((AV.agg [fo,nu,.str s,pa]).fld 3).els=xs from hs.els];rfl
   generalize MG (d+1) (.agg [fo,nu,.str s,pa])=W at *
   simp +contextual +decide (maxSteps:=1000000) only [↓ wP,wQ,tf,Nat.reduceAdd,wS,reduceCtorEq,c1,c2,cp]
   refine aU (fun i e=>∃ t n low o,e=⟨22,none,50,t,[],⟨n,low,o⟩,.no⟩/\t.val 1=.ptr 0 0 0/\t.val 3=.int .i64 (i:Nat)/\o.get 0=some (bA 0 [fo,nu,.str s,pa])/\1<=n/\i<=xs.length/\W=((xs.drop i).all (MG d)&&decide ((s.length:Int)<=30))) (fun i=>xs.length-i) 0 ⟨_,_,_,_,rfl,by simp +decide only [↓ aB,aE,aC],by simp +decide only [↓ aB,aE,aC];rfl,by simp +decide only [↓ aB,aI,aC,ne_eq],by omega,Nat.zero_le _,hsp⟩ ?_
   rintro i _ ⟨t,n,low,o,rfl,t1,t3,g0,hn,hi,hq⟩
   have f0:=cT (show 0<n by omega)
   rcases Nat.lt_or_ge i xs.length with hlt | hge
   ·obtain ⟨y,hDy,hm,hg,hd,hix,hw,hc⟩:=bF (fun x h=>(cG d).len h) hxs hl hlt
    have hpf:=fun {d':Option AV}=>(cG d).pf hDy (d:=d')
    have he:spV d [y]=some (.bool (MG d y)):=bU hDy
    rw [hd,List.all_cons]at hq
    cases k1:MG d y with
    | false=>
      rw [k1,Bool.false_and,Bool.false_and]at hq
      simp +contextual +decide (maxSteps:=1000000) only [↓ wP,wQ,tf,Nat.reduceAdd,wS,reduceCtorEq,t1,t3,g0,f0,c1,c2,cp,hs.len,hs.idx,hix,hc,hpf,he,k1,hq]
    | true=>
      rw [k1,Bool.true_and]at hq
      simp +contextual +decide (maxSteps:=1000000) only [↓ wP,wQ,tf,Nat.reduceAdd,wS,reduceCtorEq,t1,t3,g0,f0,c1,c2,cp,hs.len,hs.idx,hix,hc,hpf,he,k1,hw]
      exact ⟨i+1,by show _-_<_-_;omega,_,_,_,_,rfl,by simp +decide only [↓ aB,aE,aC,t1],by simp +decide only [↓ aB,aE,aC],by simp +decide only [↓ aB,aI,aC,ne_eq,g0,f0,cP],by omega,hlt,hq⟩
   ·obtain rfl:i=xs.length:=Nat.le_antisymm hi hge
    rw [List.drop_length,List.all_nil,Bool.true_and]at hq
    simp +contextual +decide (maxSteps:=1000000) only [↓ wP,wQ,tf,Nat.reduceAdd,wS,reduceCtorEq,t1,t3,g0,f0,c1,c2,cp,hs.len,bC,hq]
def iK (a:AV):Bool:=decide (oB (depth a) a<=16)&&MG (depth a) a
theorem EQ {d:Nat} {a:AV} (h:TPatN d a):iK a=(decide (oB d a<=16)&&MG d a):=by
 have h':=IQ ⟨d,h⟩
 rw [iK,EX h' h,XO h' h]
abbrev wF:List AV->Option AV:=qY tR fun a=>.bool (iK a)
theorem smallPat_ok:Abs.Ok Tryz.prog 21 wF:=wA fun a ha=>by
 have hua:=(tk_pat a ha).1
 obtain ⟨d,ha⟩:=ha
 rw [EQ ha]
 have he:spV d [a]=some (.bool (MG d a)):=bU ha
 have he2:tL d [a,.int .i64 16]=some (.int .i64 (wN d a 16)):=sg2_eq ⟨ha,_,rfl,by omega,by omega⟩
 have hwn:=QE d a 16 ha (by omega)
 obtain ⟨ys,rfl,hyl,hyc⟩:=(cG d a ha).2
 have hz:0+4<=ys.length:=by omega
 refine aH (L:=[ent 49 (tL d),ent 50 (spV d)]) (elist_cons (zP d).ent (elist_cons (aGs d).ent aG)) aM (by kernel_rfl) Tryz.func21 Tryz.ntmps21 Tryz.results21 rfl rfl (aA hua.und aF) aJ ?_
 by_cases k1:oB d (.agg ys)<=16
 ·have k2:(wN d (.agg ys) 16 ≥ 0)=True:=eq_true (by rw [hwn];split<;>omega)
  have k2':((0:Int)<=wN d (.agg ys) 16)=True:=k2
  simp +contextual +decide (maxSteps:=1000000) only [↓ wP,wQ,tf,Nat.reduceAdd,wS,reduceCtorEq,hyl,hyc,hz,bG hyl,he,he2,k1,k2,k2']
 ·have k2:(wN d (.agg ys) 16 ≥ 0)=False:=eq_false (by rw [hwn];split<;>omega)
  have k2':((0:Int)<=wN d (.agg ys) 16)=False:=k2
  simp +contextual +decide (maxSteps:=1000000) only [↓ wP,wQ,tf,Nat.reduceAdd,wS,reduceCtorEq,hyl,hyc,hz,bG hyl,he,he2,k1,k2,k2']
def lO (x:AV):Bool:=decide (((x.fld 2).els.length:Int)<=10)&&(decide (((x.fld 3).els.length:Int)<=10)&&(x.fld 3).els.all iK)
def uQ (x:AV):Bool:=decide (((x.fld 0).txt.length:Int)<=40)
def eX (ns fs cs:List AV):Bool:=decide ((ns.length:Int)<=320)&&(decide ((fs.length:Int)<=320)&&(decide ((cs.length:Int)<=25)&&(cs.all uQ&&ns.all lO)))
section
variable {ns fs mm cs:AV}
set_option maxHeartbeats 16000000 in
theorem ET (h:PG ns fs mm cs):Abs.Returns Tryz.prog 6 [pg ns fs mm cs] (.bool (eX ns.els fs.els cs.els)):=by
 obtain ⟨c1,c2,c3,c4⟩:=h.cells
 refine aH (L:=[ent 21 wF]) (elist_cons smallPat_ok.ent aG) aM (by kernel_rfl) Tryz.func6 Tryz.ntmps6 Tryz.results6 rfl rfl (aA h.und.und aF) aJ ?_
 obtain ⟨xn,hn0,hnx⟩:=h.ns
 obtain ⟨xf,hf0,hfx⟩:=h.fs
 obtain ⟨xc,hc0,hcx⟩:=h.cs
 rw [hn0.els,hf0.els,hc0.els]
 have hsp:eX xn xf xc=(decide ((xn.length:Int)<=320)&&(decide ((xf.length:Int)<=320)&&(decide ((xc.length:Int)<=25)&&(xc.all uQ&&xn.all lO)))):=rfl
 generalize eX xn xf xc=W at *
 by_cases k1:((xn.length:Nat):Int) > 320
 ·rw [decide_eq_false (show ¬ ((xn.length:Nat):Int)<=320 by omega),Bool.false_and]at hsp
  simp +contextual +decide (maxSteps:=1000000) only [↓ wP,wQ,tf,Nat.reduceAdd,wS,reduceCtorEq,c1,c2,c3,c4,hn0.len,k1,hsp]
 by_cases k2:((xf.length:Nat):Int) > 320
 ·rw [decide_eq_false (show ¬ ((xf.length:Nat):Int)<=320 by omega),Bool.false_and,Bool.and_false]at hsp
  simp +contextual +decide (maxSteps:=1000000) only [↓ wP,wQ,tf,Nat.reduceAdd,wS,reduceCtorEq,c1,c2,c3,c4,hn0.len,hf0.len,k1,k2,hsp]
 by_cases k3:((xc.length:Nat):Int) > 25
 ·rw [decide_eq_false (show ¬ ((xc.length:Nat):Int)<=25 by omega),Bool.false_and,Bool.and_false,Bool.and_false]at hsp
  simp +contextual +decide (maxSteps:=1000000) only [↓ wP,wQ,tf,Nat.reduceAdd,wS,reduceCtorEq,c1,c2,c3,c4,hn0.len,hf0.len,hc0.len,k1,k2,k3,hsp]
 rw [decide_eq_true (show ((xn.length:Nat):Int)<=320 by omega),Bool.true_and,decide_eq_true (show ((xf.length:Nat):Int)<=320 by omega),Bool.true_and,decide_eq_true (show ((xc.length:Nat):Int)<=25 by omega),Bool.true_and]at hsp
 simp +contextual +decide (maxSteps:=1000000) only [↓ wP,wQ,tf,Nat.reduceAdd,wS,reduceCtorEq,c1,c2,c3,c4,hn0.len,hf0.len,hc0.len,k1,k2,k3]
 refine aU (fun i e=>∃ t n low o,e=⟨74,none,6,t,[],⟨n,low,o⟩,.no⟩/\t.val 1=.ptr 0 0 0/\t.val 3=.int .i64 (i:Nat)/\o.get 0=some (bA 0 [ns,fs,mm,cs])/\1<=n/\i<=xc.length/\W=((xc.drop i).all uQ&&xn.all lO)) (fun i=>xc.length-i) 0 ⟨_,_,_,_,rfl,by simp +decide only [↓ aB,aE,aC],by simp +decide only [↓ aB,aE,aC];rfl,by simp +decide only [↓ aB,aI,aC,ne_eq],by omega,Nat.zero_le _,hsp⟩ ?_
 rintro i _ ⟨t,n,low,o,rfl,t1,t3,g0,hn,hi,hq⟩
 have f0:=cT (show 0<n by omega)
 rcases Nat.lt_or_ge i xc.length with hlt | hge
 ·obtain ⟨y,hDy,hm,hg,hd,hix,hw,hc⟩:=bF (fun x h=>tk_con.len h) hcx hc0.2 hlt
  rw [hd,List.all_cons]at hq
  obtain ⟨_,_,rfl,⟨s,rfl,hs'⟩,⟨m,rfl⟩⟩:=hDy
  rw [show uQ (.agg [.str s,.int .i64 m])=decide ((s.length:Int)<=40) from rfl]at hq
  by_cases k4:((s.length:Nat):Int) > 40
  ·rw [decide_eq_false (show ¬ ((s.length:Nat):Int)<=40 by omega),Bool.false_and,Bool.false_and]at hq
   simp +contextual +decide (maxSteps:=1000000) only [↓ wP,wQ,tf,Nat.reduceAdd,wS,reduceCtorEq,t1,t3,g0,f0,c1,c2,c3,c4,hc0.len,hc0.idx,hix,hc,k4,hq]
  ·rw [decide_eq_true (show ((s.length:Nat):Int)<=40 by omega),Bool.true_and]at hq
   simp +contextual +decide (maxSteps:=1000000) only [↓ wP,wQ,tf,Nat.reduceAdd,wS,reduceCtorEq,t1,t3,g0,f0,c1,c2,c3,c4,hc0.len,hc0.idx,hix,hc,k4,hw]
   exact ⟨i+1,by show _-_<_-_;omega,_,_,_,_,rfl,by simp +decide only [↓ aB,aE,aC,t1],by simp +decide only [↓ aB,aE,aC],by simp +decide only [↓ aB,aI,aC,ne_eq,g0,f0,cP],by omega,hlt,hq⟩
 ·obtain rfl:i=xc.length:=Nat.le_antisymm hi hge
  rw [List.drop_length,List.all_nil,Bool.true_and]at hq
  simp +contextual +decide (maxSteps:=1000000) only [↓ wP,wQ,tf,Nat.reduceAdd,wS,reduceCtorEq,t1,t3,g0,f0,c1,c2,c3,c4,hc0.len,bC]
  have hq1:=hq
  clear hq
  refine aU (fun i e=>∃ t n low o,e=⟨74,none,6,t,[],⟨n,low,o⟩,.no⟩/\t.val 1=.ptr 0 0 0/\t.val 4=.int .i64 (i:Nat)/\o.get 0=some (bA 0 [ns,fs,mm,cs])/\1<=n/\i<=xn.length/\W=(xn.drop i).all lO) (fun i=>xn.length-i) 0 ⟨_,_,_,_,rfl,by simp +decide only [↓ aB,aE,aC,t1,g0,f0],by simp +decide only [↓ aB,aE,aC,t1,g0,f0];rfl,by simp +decide only [↓ aB,aI,aC,ne_eq,t1,g0,f0],by omega,Nat.zero_le _,hq1⟩ ?_
  rintro i _ ⟨t,n,low,o,rfl,t1,t4,g0,hn,hi,hq⟩
  have f0:=cT (show 0<n by omega)
  rcases Nat.lt_or_ge i xn.length with hlt | hge
  ·obtain ⟨y,hDy,hm,hg,hd,hix,hw,hc⟩:=bF (fun x h=>tk_node.len h) hnx hn0.2 hlt
   have hpf:=fun {d:Option AV}=>tk_node.pf hDy (d:=d)
   rw [hd,List.all_cons]at hq
   obtain ⟨_,_,ki,pa,rfl,⟨op,rfl⟩,⟨nn,rfl⟩,hki,hpa⟩:=hDy
   have ck:=(aP _ hki).2
   have cp:=(fE _ hpa).2
   obtain ⟨xk,hk0,hkx⟩:=hki
   obtain ⟨xp,hp0,hpx⟩:=hpa
   rw [show lO (.agg [.int .i64 op,.int .i64 nn,ki,pa])=(decide ((xk.length:Int)<=10)&&(decide ((xp.length:Int)<=10)&&xp.all iK)) by rw [<-hk0.els,<-hp0.els];rfl]at hq
   by_cases k4:((xk.length:Nat):Int) > 10
   ·rw [decide_eq_false (show ¬ ((xk.length:Nat):Int)<=10 by omega),Bool.false_and,Bool.false_and]at hq
    simp +contextual +decide (maxSteps:=1000000) only [↓ wP,wQ,tf,Nat.reduceAdd,wS,reduceCtorEq,t1,t4,g0,f0,c1,c2,c3,c4,ck,cp,hn0.len,hn0.idx,hix,hc,hpf,hk0.len,k4,cP,hq]
   by_cases k5:((xp.length:Nat):Int) > 10
   ·rw [decide_eq_false (show ¬ ((xp.length:Nat):Int)<=10 by omega),Bool.false_and,Bool.and_false,Bool.false_and]at hq
    simp +contextual +decide (maxSteps:=1000000) only [↓ wP,wQ,tf,Nat.reduceAdd,wS,reduceCtorEq,t1,t4,g0,f0,c1,c2,c3,c4,ck,cp,hn0.len,hn0.idx,hix,hc,hpf,hk0.len,k4,hp0.len,k5,cP,hq]
   rw [decide_eq_true (show ((xk.length:Nat):Int)<=10 by omega),Bool.true_and,decide_eq_true (show ((xp.length:Nat):Int)<=10 by omega),Bool.true_and]at hq
   simp +contextual +decide (maxSteps:=1000000) only [↓ wP,wQ,tf,Nat.reduceAdd,wS,reduceCtorEq,t1,t4,g0,f0,c1,c2,c3,c4,ck,cp,hn0.len,hn0.idx,hix,hc,hpf,hk0.len,k4,hp0.len,k5,cP]
   refine aU (fun j e=>∃ t k low o m,e=⟨74,none,6,t,[],⟨k,low,o⟩,.no⟩/\t.val 1=.ptr 0 0 0/\t.val 4=.int .i64 (i:Nat)/\t.val 5=.ptr m 0 0/\t.val 6=.int .i64 (j:Nat)/\o.get 0=some (bA 0 [ns,fs,mm,cs])/\o.get m=some (bA 0 [.int .i64 op,.int .i64 nn,ki,pa])/\0<k/\m<k/\j<=xp.length/\W=((xp.drop j).all iK&&(xn.drop (i+1)).all lO)) (fun j=>xp.length-j) 0
    ⟨_,_,_,_,n,rfl,by simp +decide only [↓ aB,aE,aC,t1],by simp +decide only [↓ aB,aE,aC,t4],by simp +decide only [↓ aB,aE,aC],by simp +decide only [↓ aB,aE,aC];rfl,by simp +decide only [↓ aB,aI,aC,ne_eq,g0,f0,cP],by simp +decide only [↓ aB,aI,aC,ne_eq,cP],by omega,by omega,Nat.zero_le _,hq⟩ ?_
   clear t1 t4 g0 f0 hq hn
   clear t
   rintro j _ ⟨t,k,low,o,m,rfl,t1,t4,t5,t6,g0,gm,hk1,hk2,hj,hq⟩
   have f0:=cT hk1
   have fm:=cT hk2
   rcases Nat.lt_or_ge j xp.length with hjt | hjg
   ·obtain ⟨y2,hDy2,hm2,hg2,hd2,hix2,hw2,hc2⟩:=bF (fun x h=>tk_pat.len h) hpx hp0.2 hjt
    have hpf2:=fun {d:Option AV}=>tk_pat.pf hDy2 (d:=d)
    have he:wF [y2]=some (.bool (iK y2)):=bU hDy2
    rw [hd2,List.all_cons]at hq
    cases k6:iK y2 with
    | false=>
      rw [k6,Bool.false_and,Bool.false_and]at hq
      simp +contextual +decide (maxSteps:=1000000) only [↓ wP,wQ,tf,Nat.reduceAdd,wS,reduceCtorEq,t1,t4,t5,t6,g0,gm,f0,fm,ck,cp,hp0.len,hp0.idx,hix2,hc2,hpf2,he,k6,hq]
    | true=>
      rw [k6,Bool.true_and]at hq
      simp +contextual +decide (maxSteps:=1000000) only [↓ wP,wQ,tf,Nat.reduceAdd,wS,reduceCtorEq,t1,t4,t5,t6,g0,gm,f0,fm,ck,cp,hp0.len,hp0.idx,hix2,hc2,hpf2,he,k6,hw2]
      exact ⟨j+1,by show _-_<_-_;omega,_,_,_,_,_,rfl,by simp +decide only [↓ aB,aE,aC,t1],by simp +decide only [↓ aB,aE,aC,t4],by simp +decide only [↓ aB,aE,aC,t5],by simp +decide only [↓ aB,aE,aC],by simp +decide only [↓ aB,aI,aC,ne_eq,g0,f0],by simp +decide only [↓ aB,aI,aC,ne_eq,gm,fm],hk1,hk2,hjt,hq⟩
   ·obtain rfl:j=xp.length:=Nat.le_antisymm hj hjg
    rw [List.drop_length,List.all_nil,Bool.true_and]at hq
    simp +contextual +decide (maxSteps:=1000000) only [↓ wP,wQ,tf,Nat.reduceAdd,wS,reduceCtorEq,t1,t4,t5,t6,g0,gm,f0,fm,ck,cp,hp0.len,bC,hw]
    exact ⟨i+1,by show _-_<_-_;omega,_,_,_,_,rfl,by simp +decide only [↓ aB,aE,aC,t1],by simp +decide only [↓ aB,aE,aC],by simp +decide only [↓ aB,aI,aC,ne_eq,g0,f0],hk1,hlt,hq⟩
  ·obtain rfl:i=xn.length:=Nat.le_antisymm hi hge
   rw [List.drop_length,List.all_nil]at hq
   simp +contextual +decide (maxSteps:=1000000) only [↓ wP,wQ,tf,Nat.reduceAdd,wS,reduceCtorEq,t1,t4,g0,f0,c1,c2,c3,c4,hn0.len,bC,hq]
end
end
end Go.Proofs.YtkocnhkbgcjpbaaGreat
