/-
  The reference of programs: programs as they are defined.
-/
import Derived.Test.YtdipddlhenoglaaGreatOe
set_option linter.unusedVariables false
set_option linter.unusedSimpArgs false
namespace Go.Proofs.YtdipddlhenoglaaGreat
open Go.Abs Go Go.Abs.TryzF
noncomputable section
set_option maxRecDepth 10000
def jF (n:Nat) (L:List Int):List AV:=(List.range n).map fun i:Nat=>.bool (decide (((i:Nat):Int)∈L))
theorem kC {n:Nat} {L:List Int}:(jF n L).length=n:=by simp [jF]
theorem GI {n:Nat} {L:List Int} {f:Int} (h0:0<=f) (h1:f<n):(jF n L)[f.toNat]?=some (.bool (decide (f∈L))):=by
 have:f.toNat<n:=by omega
 have hf:((f.toNat:Nat):Int)=f:=by omega
 simp [jF,this,hf]
theorem JV {n:Nat} {L:List Int} {f:Int} (h0:0<=f) (h1:f<n):(jF n L).set f.toNat (.bool true)=jF n (L++[f]):=by
 apply List.ext_getElem?
 intro i
 rw [List.getElem?_set]
 simp only [jF,List.length_map,List.length_range,List.getElem?_map]
 by_cases hi:f.toNat=i
 ·subst hi
  have h2:f.toNat<n:=by omega
  have hf:((f.toNat:Nat):Int)=f:=by omega
  simp [h2,hf]
 ·rw [if_neg hi]
  by_cases hin:i<n
  ·have hne:¬ (i:Int)=f:=by omega
   simp [hin,hne]
  ·simp [hin]
theorem JW {n:Nat}:cS [.bool false] n=jF n []:=by
 have h:∀ m,jF m []=List.replicate m (.bool false):=fun m=>by
  simp only [jF,List.not_mem_nil,decide_false]
  exact List.ext_getElem (by simp) fun i h1 h2=>by simp
 induction n with
 | zero=>rfl
 | succ n ih=>
   rw [cS,ih,h,h,List.replicate_succ];rfl
theorem UQ {n:Nat} {L:List Int}:∀ x∈jF n L,aBk x:=fun x hx=>by obtain ⟨i,_,rfl⟩:=List.mem_map.1 hx;exact ⟨_,rfl⟩
theorem aFj:msK Tryz.prog 83=some (1,1,[.bool false]):=by kernel_rfl
theorem yM {O:bM} {lo co:Operand} {e:Env} {K:ORes->Prop} {n:Nat} (hn:n<=1000) (hl:e.eval lo=.int .i64 (n:Nat)) (hc:e.eval co=.int .i64 (n:Nat)):
 dI Tryz.prog O (.makeSlice 83 lo co) e K↔K (.val' (.sl e.s.n 0 0 n (.is n)) (e.s.push (aX 0 (jF n [])))):=by
 have h:=tQ (O:=O) (e:=e) (K:=fun r=>r=.val' (.sl e.s.n 0 0 n (.is n)) (e.s.push (aX 0 (jF n [])))) aFj hl hc (Nat.le_refl n) (by omega) (by omega) (by rw [JW];exact List.all_eq_true.2 fun x hx=>(SH x (UQ x hx)).2) (by rw [JW];rfl)
 obtain ⟨m,r,h1,h2⟩:=h
 constructor
 ·rintro ⟨m',r',h1',h2'⟩
  have:dW Tryz.prog (aO Tryz.prog O m') (.makeSlice 83 lo co) e=dW Tryz.prog (aO Tryz.prog O m) (.makeSlice 83 lo co) e:=rfl
  rw [this,h1]at h1'
  cases h1'
  rw [h2]at h2';exact h2'
 ·intro h;exact ⟨m,r,h1,by rw [h2];exact h⟩
def vJ (N:Nat) (lo:Int):List Int->List Int->Bool
 | _,[]=>true
 | L,k::l=>(inR k lo ((N:Int)-1) && !decide (k∈L))&&vJ N lo (L++[k]) l
def isT:AV->Bool
 | .bool b=>b
 | _=>false
def kQ (N:Nat) (nf:Int) (cs:List AV):List Int->Nat->List AV->Bool
 | L,_,[]=>(jF N L).all isT
 | L,i,x::l=>qX nf cs x&&(vJ N ((i:Int)+1) L (bP x)&&kQ N nf cs (L++bP x) (i+1) l)
def lU (ns fs:List AV) (mm:Int) (cs:List AV):Bool:=
 decide ((ns.length:Int)<=300)&&(inR fs.length 1 ns.length&&(inR mm 0 ((fs.length:Int)-1)&&(qY cs&&(vJ ns.length 0 [] (fs.map AV.num)&&kQ ns.length fs.length cs (fs.map AV.num) 0 ns))))
abbrev NX:List AV->Option AV:=xB (fun a b=>fM a/\dU b) fun a b=>.bool (qX (a.fld 1).els.length (a.fld 3).els b)
theorem rnodeV_ok:Abs.Ok Tryz.prog 130 NX:=ok2 fun a b ⟨⟨ns,fs,mm,cs,e,h1,h2,h3,h4⟩,hb⟩=>by
 subst e
 exact ZS ⟨h1,h2,h3,h4⟩ b hb
section
variable {ns fs mm cs:AV}
set_option maxHeartbeats 16000000 in
theorem NY (h:PG ns fs mm cs) (hcl:cs.els.length<=1000):Abs.Returns Tryz.prog 85 [pg ns fs mm cs] (.bool (lU ns.els fs.els mm.num cs.els)):=by
 obtain ⟨c1,c2,c3,c4⟩:=h.cells
 have hpg:=h
 have m1:OD [cs]=some (.bool (qY cs.els)):=cT ⟨h.cs,hcl⟩
 have m2:∀ {x:AV},dU x->NX [pg ns fs mm cs,x]=some (.bool (qX fs.els.length cs.els x)):=fun hx=>sg2_eq ⟨⟨_,_,_,_,rfl,h.ns,h.fs,h.mm,h.cs⟩,hx⟩
 obtain ⟨M,hM⟩:=h.mm
 refine aH (L:=[ent 128 fI,ent 129 OD,ent 130 NX]) (elist_cons rIn5_ok.ent (elist_cons rcons_ok.ent (elist_cons rnodeV_ok.ent aG))) (fun r=>(bif Nat.beq r 14 then [6] else [],[])) (by kernel_rfl) Tryz.func85 Tryz.ntmps85 Tryz.results85 rfl rfl (aA h.und.und aF) aL ?_
 subst hM
 have hsp:lU ns.els fs.els (AV.int .i64 M).num cs.els=(decide ((ns.els.length:Int)<=300)&&(inR fs.els.length 1 ns.els.length&&(inR M 0 ((fs.els.length:Int)-1)&&(qY cs.els&&(vJ ns.els.length 0 [] (fs.els.map AV.num)&&kQ ns.els.length fs.els.length cs.els (fs.els.map AV.num) 0 ns.els))))):=rfl
 generalize lU ns.els fs.els (AV.int .i64 M).num cs.els=W at *
 obtain ⟨xn,hn0,hnx⟩:=h.ns
 obtain ⟨xf,hf0,hfx⟩:=h.fs
 obtain ⟨xc,hc0,hcx⟩:=h.cs
 have en:=hn0.els
 have ef:=hf0.els
 have ec:=hc0.els
 have w1:=bR hf0.2
 have w2:=bR hn0.2
 rw [en,ef,ec]at hsp
 rw [ec]at m1
 rw [ef,ec]at m2
 by_cases k1:((xn.length:Nat):Int) > 300
 ·rw [decide_eq_false (show ¬ ((xn.length:Nat):Int)<=300 by omega),Bool.false_and]at hsp
  simp +contextual +decide (maxSteps:=1000000) only [↓ wP,wQ,tf,Nat.reduceAdd,wS,reduceCtorEq,c1,c2,c3,c4,hn0.len,k1,hsp]
 rw [decide_eq_true (show ((xn.length:Nat):Int)<=300 by omega),Bool.true_and]at hsp
 cases k2:inR (xf.length:Nat) 1 (xn.length:Nat) with
 | false=>
   rw [k2,Bool.false_and]at hsp
   simp +contextual +decide (maxSteps:=1000000) only [↓ wP,wQ,tf,Nat.reduceAdd,wS,reduceCtorEq,c1,c2,c3,c4,hn0.len,hf0.len,hf0.stab,k1,aI,k2,hsp]
 | true=>
 rw [k2,Bool.true_and]at hsp
 cases k5:inR M 0 ((xf.length:Int)-1) with
 | false=>
   rw [k5,Bool.false_and]at hsp
   simp +contextual +decide (maxSteps:=1000000) only [↓ wP,wQ,tf,Nat.reduceAdd,wS,reduceCtorEq,c1,c2,c3,c4,hn0.len,hf0.len,hf0.stab,k1,k2,w1,aI,k5,hsp]
 | true=>
 rw [k5,Bool.true_and]at hsp
 cases k6:qY xc with
 | false=>
   rw [k6,Bool.false_and]at hsp
   simp +contextual +decide (maxSteps:=1000000) only [↓ wP,wQ,tf,Nat.reduceAdd,wS,reduceCtorEq,c1,c2,c3,c4,hn0.len,hf0.len,hf0.stab,k1,k2,w1,aI,k5,m1,k6,hsp]
 | true=>
 rw [k6,Bool.true_and]at hsp
 simp +contextual +decide (maxSteps:=1000000) only [↓ wP,wQ,tf,Nat.reduceAdd,wS,reduceCtorEq,c1,c2,c3,c4,hn0.len,hf0.len,hf0.stab,k1,k2,w1,aI,k5,m1,k6,yM (n:=xn.length) (by omega),Sto.push_mk,dA]
 have hN:xn.length<=300:=by omega
 refine aP (fun i e=>∃ t n low o,e=⟨133,none,85,t,[],⟨n,low,o⟩,.no⟩/\t.val 1=.ptr 0 0 0/\t.val 3=.int .i64 (xn.length:Nat)/\t.val 4=.sl 1 0 0 xn.length (.is xn.length)/\t.val 5=.int .i64 (i:Nat)/\o.get 0=some (aX 0 [ns,fs,.int .i64 M,cs])/\1<=n/\i<=xf.length/\(2<=n/\o.get 1=some (aX 0 (jF xn.length ((xf.take i).map AV.num))))/\W=(vJ xn.length 0 ((xf.take i).map AV.num) ((xf.drop i).map AV.num)&&kQ xn.length xf.length xc (xf.map AV.num) 0 xn)) (fun i=>xf.length-i) 0 ⟨_,_,_,_,rfl,by simp +decide only [↓ aB,aE,aC],by simp +decide only [↓ aB,aE,aC],by simp +decide only [↓ aB,aE,aC],by simp +decide only [↓ aB,aE,aC];rfl,by simp +decide only [↓ aB,aJ,aC,ne_eq],by omega,Nat.zero_le _,⟨⟨by omega,by rw [show (xf.take 0).map AV.num=[] from rfl];exact by simp +decide only [↓ aB,aJ,aC,ne_eq]⟩,hsp⟩⟩ ?_
 rintro i _ ⟨t,n,low,o,rfl,t1,t3,t4,t5,g0,hn,hi,hq⟩
 have f0:=dR (show 0<n by omega)
 rcases Nat.lt_or_ge i xf.length with hlt | hge
 ·obtain ⟨⟨hn2,g1⟩,hq⟩:=hq
  have f1:=dR (show 1<n by omega)
  obtain ⟨y,hDy,hm,hg,hd,hix,hw,hc⟩:=bK (fun x h=>tu_int.len h) hfx hf0.2 hlt
  have hpf:=fun {d:Option AV}=>tu_int.pf hDy (d:=d)
  have hsn:=lC hg
  obtain ⟨z,rfl⟩:=hDy
  rw [show (AV.int .i64 z).num=z from rfl]at hsn
  rw [hd,List.map_cons,vJ,show (AV.int .i64 z).num=z from rfl]at hq
  generalize (xf.take i).map AV.num=L0 at *
  cases k9:inR z 0 ((xn.length:Int)-1) with
  | false=>
    rw [k9,Bool.false_and,Bool.false_and,Bool.false_and]at hq
    simp +contextual +decide (maxSteps:=1000000) only [↓ wP,wQ,tf,Nat.reduceAdd,wS,reduceCtorEq,t1,t3,t4,t5,g0,g1,f0,f1,c1,c2,c3,c4,hf0.len,hf0.idx,hix,hc,hpf,w2,aI,k9,hq]
  | true=>
    rw [k9,Bool.true_and]at hq
    have hb:0<=z/\z<=(xn.length:Int)-1:=by simpa [inR] using k9
    have hz0:(0<=z)=True:=eq_true hb.1
    have hz1:(z<((xn.length:Nat):Int))=True:=eq_true (by omega)
    have hz2:(z.toNat<xn.length)=True:=eq_true (by omega)
    have hat:=GI (n:=xn.length) (L:=L0) hb.1 (show z<(xn.length:Int) by omega)
    have hset:=JV (n:=xn.length) (L:=L0) hb.1 (show z<(xn.length:Int) by omega)
    by_cases TM:z∈L0
    ·rw [decide_eq_true TM,Bool.not_true,Bool.false_and,Bool.false_and]at hq
     rw [decide_eq_true TM]at hat
     simp +contextual +decide (maxSteps:=1000000) only [↓ wP,wQ,tf,Nat.reduceAdd,wS,reduceCtorEq,t1,t3,t4,t5,g0,g1,f0,f1,c1,c2,c3,c4,hf0.len,hf0.idx,hix,hc,hpf,w2,aI,k9,hz0,hz1,hz2,kC,hat,Nat.zero_add,Nat.mul_one,hq]
    ·rw [decide_eq_false TM,Bool.not_false,Bool.true_and]at hq
     rw [decide_eq_false TM]at hat
     simp +contextual +decide (maxSteps:=1000000) only [↓ wP,wQ,tf,Nat.reduceAdd,wS,reduceCtorEq,t1,t3,t4,t5,g0,g1,f0,f1,c1,c2,c3,c4,hf0.len,hf0.idx,hix,hc,hpf,w2,aI,k9,hz0,hz1,hz2,kC,hat,hset,hw,Nat.zero_add,Nat.mul_one,Sto.put_any]
     exact ⟨i+1,by show _-_<_-_;omega,_,_,_,_,rfl,by simp +decide only [↓ aB,aE,aC,t1],by simp +decide only [↓ aB,aE,aC,t3],by simp +decide only [↓ aB,aE,aC,t4],by simp +decide only [↓ aB,aE,aC],by simp +decide only [↓ aB,aJ,aC,ne_eq,g0,f0,dA],by omega,hlt,⟨⟨hn2,by rw [hsn];exact by simp +decide only [↓ aB,aJ,aC,ne_eq,f1]⟩,by rw [hsn];exact hq⟩⟩
 ·obtain rfl:i=xf.length:=Nat.le_antisymm hi hge
  obtain ⟨⟨hn2,g1⟩,hq⟩:=hq
  have f1:=dR (show 1<n by omega)
  rw [List.take_length]at g1
  rw [List.drop_length,List.map_nil,vJ,Bool.true_and]at hq
  simp +contextual +decide (maxSteps:=1000000) only [↓ wP,wQ,tf,Nat.reduceAdd,wS,reduceCtorEq,t1,t3,t4,t5,g0,f0,c1,c2,c3,c4,hf0.len,bE]
  have hq1:=hq
  have hn1:=hn2
  clear hq hn2
  refine aP (fun i e=>∃ t n low o,e=⟨133,none,85,t,[],⟨n,low,o⟩,.no⟩/\t.val 1=.ptr 0 0 0/\t.val 3=.int .i64 (xn.length:Nat)/\t.val 4=.sl 1 0 0 xn.length (.is xn.length)/\t.val 6=.int .i64 (i:Nat)/\o.get 0=some (aX 0 [ns,fs,.int .i64 M,cs])/\1<=n/\i<=xn.length/\(2<=n/\o.get 1=some (aX 0 (jF xn.length (xf.map AV.num++(xn.take i).flatMap bP))))/\W=kQ xn.length xf.length xc (xf.map AV.num++(xn.take i).flatMap bP) i (xn.drop i)) (fun i=>xn.length-i) 0 ⟨_,_,_,_,rfl,by simp +decide only [↓ aB,aE,aC,t1,t3,t4,g0,f0],by simp +decide only [↓ aB,aE,aC,t1,t3,t4,g0,f0],by simp +decide only [↓ aB,aE,aC,t1,t3,t4,g0,f0],by simp +decide only [↓ aB,aE,aC,t1,t3,t4,g0,f0];rfl,by simp +decide only [↓ aB,aJ,aC,ne_eq,t1,t3,t4,g0,f0],by omega,Nat.zero_le _,⟨⟨hn1,by rw [show (xn.take 0).flatMap bP=[] from rfl,List.append_nil];exact by simp +decide only [↓ aB,aJ,aC,ne_eq,g1,f1]⟩,by rw [show (xn.take 0).flatMap bP=[] from rfl,List.append_nil];exact hq1⟩⟩ ?_
  rintro i _ ⟨t,n,low,o,rfl,t1,t3,t4,t6,g0,hn,hi,hq⟩
  have f0:=dR (show 0<n by omega)
  rcases Nat.lt_or_ge i xn.length with hlt | hge
  ·obtain ⟨⟨hn2,g1⟩,hq⟩:=hq
   have f1:=dR (show 1<n by omega)
   obtain ⟨y,hDy,hm,hg,hd,hix,hw,hc⟩:=bK (fun x h=>tk_node.len h) hnx hn0.2 hlt
   have hpf:=fun {d:Option AV}=>tk_node.pf hDy (d:=d)
   have htk:(xn.take (i+1)).flatMap bP=(xn.take i).flatMap bP++bP y:=by rw [List.take_add_one,hg,List.flatMap_append];simp
   have m3:=m2 hDy
   rw [hd,kQ,List.append_assoc,<-htk]at hq
   obtain ⟨_,_,ki,pa,rfl,⟨op,rfl⟩,⟨nn,rfl⟩,hki,hpa⟩:=hDy
   have ck:=(aU _ hki).2
   have cp:=(eS _ hpa).2
   obtain ⟨xk,hk0,hkx⟩:=hki
   have hkI:bP (.agg [.int .i64 op,.int .i64 nn,ki,pa])=xk.map AV.num:=by
    rw [bP,show ((AV.agg [.int .i64 op,.int .i64 nn,ki,pa]).fld 2).els=xk from hk0.els]
   rw [hkI]at hq htk
   have hw4:IntKind.i64.wrap (((i:Nat):Int)+1)=((i:Nat):Int)+1:=IntWalk.i64_in _ (by omega)
   cases k9:qX xf.length xc (.agg [.int .i64 op,.int .i64 nn,ki,pa]) with
   | false=>
     rw [k9,Bool.false_and]at hq
     simp +contextual +decide (maxSteps:=1000000) only [↓ wP,wQ,tf,Nat.reduceAdd,wS,reduceCtorEq,t1,t3,t4,t6,g0,f0,c1,c2,c3,c4,ck,cp,hn0.idx,hix,hc,hpf,m3,k9,hq]
   | true=>
   rw [k9,Bool.true_and]at hq
   simp +contextual +decide (maxSteps:=1000000) only [↓ wP,wQ,tf,Nat.reduceAdd,wS,reduceCtorEq,t1,t3,t4,t6,g0,f0,c1,c2,c3,c4,ck,cp,hn0.idx,hix,hc,hpf,m3,k9]
   refine aP (fun j e=>∃ t k low o,e=⟨133,none,85,t,[],⟨k,low,o⟩,.no⟩/\t.val 1=.ptr 0 0 0/\t.val 3=.int .i64 (xn.length:Nat)/\t.val 4=.sl 1 0 0 xn.length (.is xn.length)/\t.val 6=.int .i64 (i:Nat)/\t.val 7=.int .i64 (j:Nat)/\o.get 0=some (aX 0 [ns,fs,.int .i64 M,cs])/\2<=k/\j<=xk.length/\o.get 1=some (aX 0 (jF xn.length (xf.map AV.num++(xn.take i).flatMap bP++(xk.take j).map AV.num)))/\
    W=(vJ xn.length ((i:Int)+1) (xf.map AV.num++(xn.take i).flatMap bP++(xk.take j).map AV.num) ((xk.drop j).map AV.num)&&kQ xn.length xf.length xc (xf.map AV.num++(xn.take (i+1)).flatMap bP) (i+1) (xn.drop (i+1)))) (fun j=>xk.length-j) 0
    ⟨_,_,_,_,rfl,by simp +decide only [↓ aB,aE,aC,t1],by simp +decide only [↓ aB,aE,aC,t3],by simp +decide only [↓ aB,aE,aC,t4],by simp +decide only [↓ aB,aE,aC,t6],by simp +decide only [↓ aB,aE,aC];rfl,by simp +decide only [↓ aB,aJ,aC,ne_eq,g0,f0,dA],by omega,Nat.zero_le _,by rw [show (xk.take 0).map AV.num=[] from rfl,List.append_nil];exact by simp +decide only [↓ aB,aJ,aC,ne_eq,g1,f1,dA],by rw [hq,show (xk.take 0).map AV.num=[] from rfl,List.append_nil];rfl⟩ ?_
   clear t1 t3 t4 t6 g0 f0 f1 hq hn hn2 g1
   clear t
   rintro j _ ⟨t,k,low,o,rfl,t1,t3,t4,t6,t7,g0,hk2,hj,g1,hq⟩
   have f0:=dR (show 0<k by omega)
   have f1:=dR (show 1<k by omega)
   rcases Nat.lt_or_ge j xk.length with hjt | hjg
   ·obtain ⟨y2,hDy2,hm2,hg2,hd2,hix2,hw2,hc2⟩:=bK (fun x h=>tu_int.len h) hkx hk0.2 hjt
    have hpf2:=fun {d:Option AV}=>tu_int.pf hDy2 (d:=d)
    have hsn:=lC hg2
    obtain ⟨z,rfl⟩:=hDy2
    rw [show (AV.int .i64 z).num=z from rfl]at hsn
    rw [hd2,List.map_cons,vJ,show (AV.int .i64 z).num=z from rfl]at hq
    have hsn':xf.map AV.num++(xn.take i).flatMap bP++(xk.take (j+1)).map AV.num=xf.map AV.num++(xn.take i).flatMap bP++(xk.take j).map AV.num++[z]:=by rw [hsn];simp
    generalize xf.map AV.num++(xn.take i).flatMap bP++(xk.take j).map AV.num=L0 at *
    cases k9:inR z ((i:Int)+1) ((xn.length:Int)-1) with
    | false=>
      rw [k9,Bool.false_and,Bool.false_and,Bool.false_and]at hq
      simp +contextual +decide (maxSteps:=1000000) only [↓ wP,wQ,tf,Nat.reduceAdd,wS,reduceCtorEq,t1,t3,t4,t6,t7,g0,g1,f0,f1,c1,c2,c3,c4,ck,cp,hn0.idx,hix,hk0.len,hk0.idx,hix2,hc2,hpf2,w2,hw4,aI,k9,hq]
    | true=>
      rw [k9,Bool.true_and]at hq
      have hb:(i:Int)+1<=z/\z<=(xn.length:Int)-1:=by simpa [inR] using k9
      have hz0:(0<=z)=True:=eq_true (by omega)
      have hz1:(z<((xn.length:Nat):Int))=True:=eq_true (by omega)
      have hz2:(z.toNat<xn.length)=True:=eq_true (by omega)
      have hat:=GI (n:=xn.length) (L:=L0) (show 0<=z by omega) (show z<(xn.length:Int) by omega)
      have hset:=JV (n:=xn.length) (L:=L0) (show 0<=z by omega) (show z<(xn.length:Int) by omega)
      by_cases TM:z∈L0
      ·rw [decide_eq_true TM,Bool.not_true,Bool.false_and,Bool.false_and]at hq
       rw [decide_eq_true TM]at hat
       simp +contextual +decide (maxSteps:=1000000) only [↓ wP,wQ,tf,Nat.reduceAdd,wS,reduceCtorEq,t1,t3,t4,t6,t7,g0,g1,f0,f1,c1,c2,c3,c4,ck,cp,hn0.idx,hix,hk0.len,hk0.idx,hix2,hc2,hpf2,w2,hw4,aI,k9,hz0,hz1,hz2,kC,hat,Nat.zero_add,Nat.mul_one,hq]
      ·rw [decide_eq_false TM,Bool.not_false,Bool.true_and]at hq
       rw [decide_eq_false TM]at hat
       simp +contextual +decide (maxSteps:=1000000) only [↓ wP,wQ,tf,Nat.reduceAdd,wS,reduceCtorEq,t1,t3,t4,t6,t7,g0,g1,f0,f1,c1,c2,c3,c4,ck,cp,hn0.idx,hix,hk0.len,hk0.idx,hix2,hc2,hpf2,w2,hw4,aI,k9,hz0,hz1,hz2,kC,hat,hset,hw2,Nat.zero_add,Nat.mul_one,Sto.put_any]
       exact ⟨j+1,by show _-_<_-_;omega,_,_,_,_,rfl,by simp +decide only [↓ aB,aE,aC,t1],by simp +decide only [↓ aB,aE,aC,t3],by simp +decide only [↓ aB,aE,aC,t4],by simp +decide only [↓ aB,aE,aC,t6],by simp +decide only [↓ aB,aE,aC],by simp +decide only [↓ aB,aJ,aC,ne_eq,g0,f0],hk2,hjt,by rw [hsn'];exact by simp +decide only [↓ aB,aJ,aC,ne_eq,f1],by rw [hsn'];exact hq⟩
   ·obtain rfl:j=xk.length:=Nat.le_antisymm hj hjg
    rw [List.take_length,List.append_assoc,<-htk]at g1
    rw [List.drop_length,List.map_nil,vJ,Bool.true_and]at hq
    simp +contextual +decide (maxSteps:=1000000) only [↓ wP,wQ,tf,Nat.reduceAdd,wS,reduceCtorEq,t1,t3,t4,t6,t7,g0,f0,c1,c2,c3,c4,ck,cp,hn0.idx,hix,hk0.len,bE,hw]
    exact ⟨i+1,by show _-_<_-_;omega,_,_,_,_,rfl,by simp +decide only [↓ aB,aE,aC,t1],by simp +decide only [↓ aB,aE,aC,t3],by simp +decide only [↓ aB,aE,aC,t4],by simp +decide only [↓ aB,aE,aC],by simp +decide only [↓ aB,aJ,aC,ne_eq,g0,f0],by omega,hlt,⟨hk2,by simp +decide only [↓ aB,aJ,aC,ne_eq,g1,f1]⟩,hq⟩
  ·obtain rfl:i=xn.length:=Nat.le_antisymm hi hge
   obtain ⟨⟨hn2,g1⟩,hq⟩:=hq
   have f1:=dR (show 1<n by omega)
   rw [List.take_length]at g1
   rw [List.drop_length,kQ,List.take_length]at hq
   generalize xf.map AV.num++xn.flatMap bP=L0 at *
   simp +contextual +decide (maxSteps:=1000000) only [↓ wP,wQ,tf,Nat.reduceAdd,wS,reduceCtorEq,t1,t3,t4,t6,bE]
   have hq1:=hq
   have hn1:=hn2
   clear hq hn2
   refine aP (fun i e=>∃ t n low o,e=⟨133,none,85,t,[],⟨n,low,o⟩,.no⟩/\t.val 3=.int .i64 (xn.length:Nat)/\t.val 4=.sl 1 0 0 xn.length (.is xn.length)/\t.val 9=.int .i64 (i:Nat)/\o.get 1=some (aX 0 (jF xn.length L0))/\2<=n/\i<=xn.length/\2<=n/\W=((jF xn.length L0).drop i).all isT) (fun i=>xn.length-i) 0 ⟨_,_,_,_,rfl,by simp +decide only [↓ aB,aE,aC,t3,t4,g1,f1],by simp +decide only [↓ aB,aE,aC,t3,t4,g1,f1],by simp +decide only [↓ aB,aE,aC,t3,t4,g1,f1];rfl,by simp +decide only [↓ aB,aJ,aC,ne_eq,t3,t4,g1,f1],by omega,Nat.zero_le _,⟨hn1,hq1⟩⟩ ?_
   rintro i _ ⟨t,n,low,o,rfl,t3,t4,t9,g1,hn,hi,hq⟩
   have f1:=dR (show 1<n by omega)
   rcases Nat.lt_or_ge i xn.length with hlt | hge
   ·obtain ⟨hn2,hq⟩:=hq
    have hz0:((0:Int)<=(i:Nat))=True:=eq_true (by omega)
    have hz1:(((i:Nat):Int)<((xn.length:Nat):Int))=True:=eq_true (by omega)
    have hz2:(i<xn.length)=True:=eq_true (by omega)
    have hw:IntKind.i64.wrap (((i:Nat):Int)+1)=((i+1:Nat):Int):=by rw [IntWalk.i64_in _ (by omega)];rfl
    have hat:=GI (n:=xn.length) (L:=L0) (f:=i) (by omega) (by omega)
    rw [Int.toNat_natCast]at hat
    have hd:(jF xn.length L0).drop i=.bool (decide ((i:Int)∈L0))::(jF xn.length L0).drop (i+1):=by
     have hi':i<(jF xn.length L0).length:=by rw [kC];exact hlt
     rw [List.drop_eq_getElem_cons hi']
     congr 1
     rw [List.getElem?_eq_getElem hi']at hat
     exact Option.some.inj hat
    rw [hd,List.all_cons,show isT (.bool (decide ((i:Int)∈L0)))=decide ((i:Int)∈L0) from rfl]at hq
    by_cases TM:(i:Int)∈L0
    ·rw [decide_eq_true TM]at hq hat
     rw [Bool.true_and]at hq
     simp +contextual +decide (maxSteps:=1000000) only [↓ wP,wQ,tf,Nat.reduceAdd,wS,reduceCtorEq,t3,t4,t9,g1,f1,hz0,hz1,hz2,kC,hat,hw,Int.toNat_natCast,Nat.zero_add,Nat.mul_one]
     exact ⟨i+1,by show _-_<_-_;omega,_,_,_,_,rfl,by simp +decide only [↓ aB,aE,aC,t3],by simp +decide only [↓ aB,aE,aC,t4],by simp +decide only [↓ aB,aE,aC],by simp +decide only [↓ aB,aJ,aC,ne_eq,g1,f1,dA],by omega,hlt,⟨hn2,hq⟩⟩
    ·rw [decide_eq_false TM]at hq hat
     rw [Bool.false_and]at hq
     simp +contextual +decide (maxSteps:=1000000) only [↓ wP,wQ,tf,Nat.reduceAdd,wS,reduceCtorEq,t3,t4,t9,g1,f1,hz0,hz1,hz2,kC,hat,hw,Int.toNat_natCast,Nat.zero_add,Nat.mul_one,hq]
   ·obtain rfl:i=xn.length:=Nat.le_antisymm hi hge
    obtain ⟨hn2,hq⟩:=hq
    rw [List.drop_eq_nil_of_le (by rw [kC];exact Nat.le_refl _),List.all_nil]at hq
    simp +contextual +decide (maxSteps:=1000000) only [↓ wP,wQ,tf,Nat.reduceAdd,wS,reduceCtorEq,t3,t4,t9,bE,hq]
end
def NZ:Nat->AV->Bool
 | 0,_=>true
 | d+1,a=>(a.fld 3).els.all (NZ d)&&decide (((a.fld 2).txt.length:Int)<=30)
theorem ZR:∀ {d d':Nat} {a:AV},TPatN d a->TPatN d' a->NZ d a=NZ d' a
 | 0,_,_,h,_=>h.elim
 | _,0,_,_,h=>h.elim
 | d+1,d'+1,a,h,h'=>by
   obtain ⟨x,y,z,u,rfl,_,_,_,xs,hs,hx⟩:=h
   obtain ⟨_,_,_,_,e,_,_,_,xs',hs',hx'⟩:=h'
   cases e
   have:xs=xs':=by rw [<-hs.els,hs'.els]
   subst this
   have hu:((AV.agg [x,y,z,u]).fld 3).els=xs:=hs.els
   simp only [NZ,hu]
   rw [uH fun q hq=>ZR (hx q hq) (hx' q hq)]
abbrev spV (d:Nat):List AV->Option AV:=tP (TPatN d) fun a=>.bool (NZ d a)
set_option maxHeartbeats 1000000 in
theorem aIg:∀ d,Abs.Ok Tryz.prog 103 (spV d)
 | 0=>zK fun a h=>h.elim
 | d+1=>zK fun a ha=>by
   have hua:=(bZ (d+1) a ha).1
   obtain ⟨fo,nu,st,pa,rfl,hfo,hnu,⟨s,rfl,hst⟩,hp⟩:=ha
   have c1:=(tu_int _ hfo).2
   have c2:=(tu_int _ hnu).2
   have cp:=(iP (jI (bZ d)) _ hp).2
   obtain ⟨xs,hs,hxs⟩:=hp
   have hl:=hs.2
   refine aH (L:=[ent 103 (spV d)]) (elist_cons (aIg d).ent aG) aM (by kernel_rfl) Tryz.func103 Tryz.ntmps103 Tryz.results103 rfl rfl (aA hua.und aF) aL ?_
   have hsp:NZ (d+1) (.agg [fo,nu,.str s,pa])=(xs.all (NZ d)&&decide ((s.length:Int)<=30)):=by
    rw [NZ,show ((AV.agg [fo,nu,.str s,pa]).fld 3).els=xs from hs.els];rfl
   generalize NZ (d+1) (.agg [fo,nu,.str s,pa])=W at *
   simp +contextual +decide (maxSteps:=1000000) only [↓ wP,wQ,tf,Nat.reduceAdd,wS,reduceCtorEq,c1,c2,cp]
   refine aP (fun i e=>∃ t n low o,e=⟨22,none,103,t,[],⟨n,low,o⟩,.no⟩/\t.val 1=.ptr 0 0 0/\t.val 3=.int .i64 (i:Nat)/\o.get 0=some (aX 0 [fo,nu,.str s,pa])/\1<=n/\i<=xs.length/\W=((xs.drop i).all (NZ d)&&decide ((s.length:Int)<=30))) (fun i=>xs.length-i) 0 ⟨_,_,_,_,rfl,by simp +decide only [↓ aB,aE,aC],by simp +decide only [↓ aB,aE,aC];rfl,by simp +decide only [↓ aB,aJ,aC,ne_eq],by omega,Nat.zero_le _,hsp⟩ ?_
   rintro i _ ⟨t,n,low,o,rfl,t1,t3,g0,hn,hi,hq⟩
   have f0:=dR (show 0<n by omega)
   rcases Nat.lt_or_ge i xs.length with hlt | hge
   ·obtain ⟨y,hDy,hm,hg,hd,hix,hw,hc⟩:=bK (fun x h=>(bZ d).len h) hxs hl hlt
    have hpf:=fun {d':Option AV}=>(bZ d).pf hDy (d:=d')
    have he:spV d [y]=some (.bool (NZ d y)):=cT hDy
    rw [hd,List.all_cons]at hq
    cases k1:NZ d y with
    | false=>
      rw [k1,Bool.false_and,Bool.false_and]at hq
      simp +contextual +decide (maxSteps:=1000000) only [↓ wP,wQ,tf,Nat.reduceAdd,wS,reduceCtorEq,t1,t3,g0,f0,c1,c2,cp,hs.len,hs.idx,hix,hc,hpf,he,k1,hq]
    | true=>
      rw [k1,Bool.true_and]at hq
      simp +contextual +decide (maxSteps:=1000000) only [↓ wP,wQ,tf,Nat.reduceAdd,wS,reduceCtorEq,t1,t3,g0,f0,c1,c2,cp,hs.len,hs.idx,hix,hc,hpf,he,k1,hw]
      exact ⟨i+1,by show _-_<_-_;omega,_,_,_,_,rfl,by simp +decide only [↓ aB,aE,aC,t1],by simp +decide only [↓ aB,aE,aC],by simp +decide only [↓ aB,aJ,aC,ne_eq,g0,f0,dA],by omega,hlt,hq⟩
   ·obtain rfl:i=xs.length:=Nat.le_antisymm hi hge
    rw [List.drop_length,List.all_nil,Bool.true_and]at hq
    simp +contextual +decide (maxSteps:=1000000) only [↓ wP,wQ,tf,Nat.reduceAdd,wS,reduceCtorEq,t1,t3,g0,f0,c1,c2,cp,hs.len,bE,hq]
def iC (a:AV):Bool:=decide (oC (depth a) a<=16)&&NZ (depth a) a
theorem GJ {d:Nat} {a:AV} (h:TPatN d a):iC a=(decide (oC d a<=16)&&NZ d a):=by
 have h':=KA ⟨d,h⟩
 rw [iC,GO h' h,ZR h' h]
abbrev xO:List AV->Option AV:=tP uK fun a=>.bool (iC a)
theorem smallPat_ok:Abs.Ok Tryz.prog 68 xO:=zK fun a ha=>by
 have hua:=(tk_pat a ha).1
 obtain ⟨d,ha⟩:=ha
 rw [GJ ha]
 have he:spV d [a]=some (.bool (NZ d a)):=cT ha
 have he2:uG d [a,.int .i64 16]=some (.int .i64 (wN d a 16)):=sg2_eq ⟨ha,_,rfl,by omega,by omega⟩
 have hwn:=RT d a 16 ha (by omega)
 obtain ⟨ys,rfl,hyl,hyc⟩:=(bZ d a ha).2
 have hz:0+4<=ys.length:=by omega
 refine aH (L:=[ent 102 (uG d),ent 103 (spV d)]) (elist_cons (AW d).ent (elist_cons (aIg d).ent aG)) aM (by kernel_rfl) Tryz.func68 Tryz.ntmps68 Tryz.results68 rfl rfl (aA hua.und aF) aL ?_
 by_cases k1:oC d (.agg ys)<=16
 ·have k2:(wN d (.agg ys) 16 ≥ 0)=True:=eq_true (by rw [hwn];split<;>omega)
  have k2':((0:Int)<=wN d (.agg ys) 16)=True:=k2
  simp +contextual +decide (maxSteps:=1000000) only [↓ wP,wQ,tf,Nat.reduceAdd,wS,reduceCtorEq,hyl,hyc,hz,fN hyl,he,he2,k1,k2,k2']
 ·have k2:(wN d (.agg ys) 16 ≥ 0)=False:=eq_false (by rw [hwn];split<;>omega)
  have k2':((0:Int)<=wN d (.agg ys) 16)=False:=k2
  simp +contextual +decide (maxSteps:=1000000) only [↓ wP,wQ,tf,Nat.reduceAdd,wS,reduceCtorEq,hyl,hyc,hz,fN hyl,he,he2,k1,k2,k2']
def lP (x:AV):Bool:=decide (((x.fld 2).els.length:Int)<=10)&&(decide (((x.fld 3).els.length:Int)<=10)&&(x.fld 3).els.all iC)
def vL (x:AV):Bool:=decide (((x.fld 0).txt.length:Int)<=40)
def dH (ns fs cs:List AV):Bool:=decide ((ns.length:Int)<=320)&&(decide ((fs.length:Int)<=320)&&(decide ((cs.length:Int)<=25)&&(cs.all vL&&ns.all lP)))
section
variable {ns fs mm cs:AV}
set_option maxHeartbeats 16000000 in
theorem GK (h:PG ns fs mm cs):Abs.Returns Tryz.prog 25 [pg ns fs mm cs] (.bool (dH ns.els fs.els cs.els)):=by
 obtain ⟨c1,c2,c3,c4⟩:=h.cells
 refine aH (L:=[ent 68 xO]) (elist_cons smallPat_ok.ent aG) aM (by kernel_rfl) Tryz.func25 Tryz.ntmps25 Tryz.results25 rfl rfl (aA h.und.und aF) aL ?_
 obtain ⟨xn,hn0,hnx⟩:=h.ns
 obtain ⟨xf,hf0,hfx⟩:=h.fs
 obtain ⟨xc,hc0,hcx⟩:=h.cs
 rw [hn0.els,hf0.els,hc0.els]
 have hsp:dH xn xf xc=(decide ((xn.length:Int)<=320)&&(decide ((xf.length:Int)<=320)&&(decide ((xc.length:Int)<=25)&&(xc.all vL&&xn.all lP)))):=rfl
 generalize dH xn xf xc=W at *
 by_cases k1:((xn.length:Nat):Int) > 320
 ·rw [decide_eq_false (show ¬ ((xn.length:Nat):Int)<=320 by omega),Bool.false_and]at hsp
  simp +contextual +decide (maxSteps:=1000000) only [↓ wP,wQ,tf,Nat.reduceAdd,wS,reduceCtorEq,c1,c2,c3,c4,hn0.len,k1,hsp]
 by_cases k2:((xf.length:Nat):Int) > 320
 ·rw [decide_eq_false (show ¬ ((xf.length:Nat):Int)<=320 by omega),Bool.false_and,Bool.and_false]at hsp
  simp +contextual +decide (maxSteps:=1000000) only [↓ wP,wQ,tf,Nat.reduceAdd,wS,reduceCtorEq,c1,c2,c3,c4,hn0.len,hf0.len,k1,k2,hsp]
 by_cases k3:((xc.length:Nat):Int) > 25
 ·rw [decide_eq_false (show ¬ ((xc.length:Nat):Int)<=25 by omega),Bool.false_and,Bool.and_false,Bool.and_false]at hsp
  simp +contextual +decide (maxSteps:=1000000) only [↓ wP,wQ,tf,Nat.reduceAdd,wS,reduceCtorEq,c1,c2,c3,c4,hn0.len,hf0.len,hc0.len,k1,k2,k3,hsp]
 rw [decide_eq_true (show ((xn.length:Nat):Int)<=320 by omega),Bool.true_and,decide_eq_true (show ((xf.length:Nat):Int)<=320 by omega),Bool.true_and,decide_eq_true (show ((xc.length:Nat):Int)<=25 by omega),Bool.true_and]at hsp
 simp +contextual +decide (maxSteps:=1000000) only [↓ wP,wQ,tf,Nat.reduceAdd,wS,reduceCtorEq,c1,c2,c3,c4,hn0.len,hf0.len,hc0.len,k1,k2,k3]
 refine aP (fun i e=>∃ t n low o,e=⟨74,none,25,t,[],⟨n,low,o⟩,.no⟩/\t.val 1=.ptr 0 0 0/\t.val 3=.int .i64 (i:Nat)/\o.get 0=some (aX 0 [ns,fs,mm,cs])/\1<=n/\i<=xc.length/\W=((xc.drop i).all vL&&xn.all lP)) (fun i=>xc.length-i) 0 ⟨_,_,_,_,rfl,by simp +decide only [↓ aB,aE,aC],by simp +decide only [↓ aB,aE,aC];rfl,by simp +decide only [↓ aB,aJ,aC,ne_eq],by omega,Nat.zero_le _,hsp⟩ ?_
 rintro i _ ⟨t,n,low,o,rfl,t1,t3,g0,hn,hi,hq⟩
 have f0:=dR (show 0<n by omega)
 rcases Nat.lt_or_ge i xc.length with hlt | hge
 ·obtain ⟨y,hDy,hm,hg,hd,hix,hw,hc⟩:=bK (fun x h=>tk_con.len h) hcx hc0.2 hlt
  rw [hd,List.all_cons]at hq
  obtain ⟨_,_,rfl,⟨s,rfl,hs'⟩,⟨m,rfl⟩⟩:=hDy
  rw [show vL (.agg [.str s,.int .i64 m])=decide ((s.length:Int)<=40) from rfl]at hq
  by_cases k4:((s.length:Nat):Int) > 40
  ·rw [decide_eq_false (show ¬ ((s.length:Nat):Int)<=40 by omega),Bool.false_and,Bool.false_and]at hq
   simp +contextual +decide (maxSteps:=1000000) only [↓ wP,wQ,tf,Nat.reduceAdd,wS,reduceCtorEq,t1,t3,g0,f0,c1,c2,c3,c4,hc0.len,hc0.idx,hix,hc,k4,hq]
  ·rw [decide_eq_true (show ((s.length:Nat):Int)<=40 by omega),Bool.true_and]at hq
   simp +contextual +decide (maxSteps:=1000000) only [↓ wP,wQ,tf,Nat.reduceAdd,wS,reduceCtorEq,t1,t3,g0,f0,c1,c2,c3,c4,hc0.len,hc0.idx,hix,hc,k4,hw]
   exact ⟨i+1,by show _-_<_-_;omega,_,_,_,_,rfl,by simp +decide only [↓ aB,aE,aC,t1],by simp +decide only [↓ aB,aE,aC],by simp +decide only [↓ aB,aJ,aC,ne_eq,g0,f0,dA],by omega,hlt,hq⟩
 ·obtain rfl:i=xc.length:=Nat.le_antisymm hi hge
  rw [List.drop_length,List.all_nil,Bool.true_and]at hq
  simp +contextual +decide (maxSteps:=1000000) only [↓ wP,wQ,tf,Nat.reduceAdd,wS,reduceCtorEq,t1,t3,g0,f0,c1,c2,c3,c4,hc0.len,bE]
  have hq1:=hq
  clear hq
  refine aP (fun i e=>∃ t n low o,e=⟨74,none,25,t,[],⟨n,low,o⟩,.no⟩/\t.val 1=.ptr 0 0 0/\t.val 4=.int .i64 (i:Nat)/\o.get 0=some (aX 0 [ns,fs,mm,cs])/\1<=n/\i<=xn.length/\W=(xn.drop i).all lP) (fun i=>xn.length-i) 0 ⟨_,_,_,_,rfl,by simp +decide only [↓ aB,aE,aC,t1,g0,f0],by simp +decide only [↓ aB,aE,aC,t1,g0,f0];rfl,by simp +decide only [↓ aB,aJ,aC,ne_eq,t1,g0,f0],by omega,Nat.zero_le _,hq1⟩ ?_
  rintro i _ ⟨t,n,low,o,rfl,t1,t4,g0,hn,hi,hq⟩
  have f0:=dR (show 0<n by omega)
  rcases Nat.lt_or_ge i xn.length with hlt | hge
  ·obtain ⟨y,hDy,hm,hg,hd,hix,hw,hc⟩:=bK (fun x h=>tk_node.len h) hnx hn0.2 hlt
   have hpf:=fun {d:Option AV}=>tk_node.pf hDy (d:=d)
   rw [hd,List.all_cons]at hq
   obtain ⟨_,_,ki,pa,rfl,⟨op,rfl⟩,⟨nn,rfl⟩,hki,hpa⟩:=hDy
   have ck:=(aU _ hki).2
   have cp:=(eS _ hpa).2
   obtain ⟨xk,hk0,hkx⟩:=hki
   obtain ⟨xp,hp0,hpx⟩:=hpa
   rw [show lP (.agg [.int .i64 op,.int .i64 nn,ki,pa])=(decide ((xk.length:Int)<=10)&&(decide ((xp.length:Int)<=10)&&xp.all iC)) by rw [<-hk0.els,<-hp0.els];rfl]at hq
   by_cases k4:((xk.length:Nat):Int) > 10
   ·rw [decide_eq_false (show ¬ ((xk.length:Nat):Int)<=10 by omega),Bool.false_and,Bool.false_and]at hq
    simp +contextual +decide (maxSteps:=1000000) only [↓ wP,wQ,tf,Nat.reduceAdd,wS,reduceCtorEq,t1,t4,g0,f0,c1,c2,c3,c4,ck,cp,hn0.len,hn0.idx,hix,hc,hpf,hk0.len,k4,dA,hq]
   by_cases k5:((xp.length:Nat):Int) > 10
   ·rw [decide_eq_false (show ¬ ((xp.length:Nat):Int)<=10 by omega),Bool.false_and,Bool.and_false,Bool.false_and]at hq
    simp +contextual +decide (maxSteps:=1000000) only [↓ wP,wQ,tf,Nat.reduceAdd,wS,reduceCtorEq,t1,t4,g0,f0,c1,c2,c3,c4,ck,cp,hn0.len,hn0.idx,hix,hc,hpf,hk0.len,k4,hp0.len,k5,dA,hq]
   rw [decide_eq_true (show ((xk.length:Nat):Int)<=10 by omega),Bool.true_and,decide_eq_true (show ((xp.length:Nat):Int)<=10 by omega),Bool.true_and]at hq
   simp +contextual +decide (maxSteps:=1000000) only [↓ wP,wQ,tf,Nat.reduceAdd,wS,reduceCtorEq,t1,t4,g0,f0,c1,c2,c3,c4,ck,cp,hn0.len,hn0.idx,hix,hc,hpf,hk0.len,k4,hp0.len,k5,dA]
   refine aP (fun j e=>∃ t k low o m,e=⟨74,none,25,t,[],⟨k,low,o⟩,.no⟩/\t.val 1=.ptr 0 0 0/\t.val 4=.int .i64 (i:Nat)/\t.val 5=.ptr m 0 0/\t.val 6=.int .i64 (j:Nat)/\o.get 0=some (aX 0 [ns,fs,mm,cs])/\o.get m=some (aX 0 [.int .i64 op,.int .i64 nn,ki,pa])/\0<k/\m<k/\j<=xp.length/\W=((xp.drop j).all iC&&(xn.drop (i+1)).all lP)) (fun j=>xp.length-j) 0
    ⟨_,_,_,_,n,rfl,by simp +decide only [↓ aB,aE,aC,t1],by simp +decide only [↓ aB,aE,aC,t4],by simp +decide only [↓ aB,aE,aC],by simp +decide only [↓ aB,aE,aC];rfl,by simp +decide only [↓ aB,aJ,aC,ne_eq,g0,f0,dA],by simp +decide only [↓ aB,aJ,aC,ne_eq,dA],by omega,by omega,Nat.zero_le _,hq⟩ ?_
   clear t1 t4 g0 f0 hq hn
   clear t
   rintro j _ ⟨t,k,low,o,m,rfl,t1,t4,t5,t6,g0,gm,hk1,hk2,hj,hq⟩
   have f0:=dR hk1
   have fm:=dR hk2
   rcases Nat.lt_or_ge j xp.length with hjt | hjg
   ·obtain ⟨y2,hDy2,hm2,hg2,hd2,hix2,hw2,hc2⟩:=bK (fun x h=>tk_pat.len h) hpx hp0.2 hjt
    have hpf2:=fun {d:Option AV}=>tk_pat.pf hDy2 (d:=d)
    have he:xO [y2]=some (.bool (iC y2)):=cT hDy2
    rw [hd2,List.all_cons]at hq
    cases k6:iC y2 with
    | false=>
      rw [k6,Bool.false_and,Bool.false_and]at hq
      simp +contextual +decide (maxSteps:=1000000) only [↓ wP,wQ,tf,Nat.reduceAdd,wS,reduceCtorEq,t1,t4,t5,t6,g0,gm,f0,fm,ck,cp,hp0.len,hp0.idx,hix2,hc2,hpf2,he,k6,hq]
    | true=>
      rw [k6,Bool.true_and]at hq
      simp +contextual +decide (maxSteps:=1000000) only [↓ wP,wQ,tf,Nat.reduceAdd,wS,reduceCtorEq,t1,t4,t5,t6,g0,gm,f0,fm,ck,cp,hp0.len,hp0.idx,hix2,hc2,hpf2,he,k6,hw2]
      exact ⟨j+1,by show _-_<_-_;omega,_,_,_,_,_,rfl,by simp +decide only [↓ aB,aE,aC,t1],by simp +decide only [↓ aB,aE,aC,t4],by simp +decide only [↓ aB,aE,aC,t5],by simp +decide only [↓ aB,aE,aC],by simp +decide only [↓ aB,aJ,aC,ne_eq,g0,f0],by simp +decide only [↓ aB,aJ,aC,ne_eq,gm,fm],hk1,hk2,hjt,hq⟩
   ·obtain rfl:j=xp.length:=Nat.le_antisymm hj hjg
    rw [List.drop_length,List.all_nil,Bool.true_and]at hq
    simp +contextual +decide (maxSteps:=1000000) only [↓ wP,wQ,tf,Nat.reduceAdd,wS,reduceCtorEq,t1,t4,t5,t6,g0,gm,f0,fm,ck,cp,hp0.len,bE,hw]
    exact ⟨i+1,by show _-_<_-_;omega,_,_,_,_,rfl,by simp +decide only [↓ aB,aE,aC,t1],by simp +decide only [↓ aB,aE,aC],by simp +decide only [↓ aB,aJ,aC,ne_eq,g0,f0],hk1,hlt,hq⟩
  ·obtain rfl:i=xn.length:=Nat.le_antisymm hi hge
   rw [List.drop_length,List.all_nil]at hq
   simp +contextual +decide (maxSteps:=1000000) only [↓ wP,wQ,tf,Nat.reduceAdd,wS,reduceCtorEq,t1,t4,g0,f0,c1,c2,c3,c4,hn0.len,bE,hq]
end
end
end Go.Proofs.YtdipddlhenoglaaGreat
