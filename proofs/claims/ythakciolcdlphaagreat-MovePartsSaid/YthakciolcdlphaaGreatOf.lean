/-
  The reference of programs: programs as they are defined.
-/
import Derived.Test.YthakciolcdlphaaGreatOe
set_option linter.unusedVariables false
set_option linter.unusedSimpArgs false
namespace Go.Proofs.YthakciolcdlphaaGreat
open Go.Abs Go Go.Abs.TryzF
noncomputable section
set_option maxRecDepth 10000
def jA (n:Nat) (L:List Int):List AV:=(List.range n).map fun i:Nat=>.bool (decide (((i:Nat):Int)∈L))
theorem jT {n:Nat} {L:List Int}:(jA n L).length=n:=by simp [jA]
theorem FB {n:Nat} {L:List Int} {f:Int} (h0:0<=f) (h1:f<n):(jA n L)[f.toNat]?=some (.bool (decide (f∈L))):=by
 have:f.toNat<n:=by omega
 have hf:((f.toNat:Nat):Int)=f:=by omega
 simp [jA,this,hf]
theorem IO {n:Nat} {L:List Int} {f:Int} (h0:0<=f) (h1:f<n):(jA n L).set f.toNat (.bool true)=jA n (L++[f]):=by
 apply List.ext_getElem?
 intro i
 rw [List.getElem?_set]
 simp only [jA,List.length_map,List.length_range,List.getElem?_map]
 by_cases hi:f.toNat=i
 ·subst hi
  have h2:f.toNat<n:=by omega
  have hf:((f.toNat:Nat):Int)=f:=by omega
  simp [h2,hf]
 ·rw [if_neg hi]
  by_cases hin:i<n
  ·have hne:¬ (i:Int)=f:=by omega
   simp [hin,hne]
  ·simp [hin]
theorem IP {n:Nat}:cQ [.bool false] n=jA n []:=by
 have h:∀ m,jA m []=List.replicate m (.bool false):=fun m=>by
  simp only [jA,List.not_mem_nil,decide_false]
  exact List.ext_getElem (by simp) fun i h1 h2=>by simp
 induction n with
 | zero=>rfl
 | succ n ih=>
   rw [cQ,ih,h,h,List.replicate_succ];rfl
theorem TK {n:Nat} {L:List Int}:∀ x∈jA n L,ZZ x:=fun x hx=>by obtain ⟨i,_,rfl⟩:=List.mem_map.1 hx;exact ⟨_,rfl⟩
theorem aEh:msK Tryz.prog 148=some (1,1,[.bool false]):=by kernel_rfl
theorem xS {O:bN} {lo co:Operand} {e:Env} {K:ORes->Prop} {n:Nat} (hn:n<=1000) (hl:e.eval lo=.int .i64 (n:Nat)) (hc:e.eval co=.int .i64 (n:Nat)):
 dH Tryz.prog O (.makeSlice 148 lo co) e K↔K (.val' (.sl e.s.n 0 0 n (.is n)) (e.s.push (aU 0 (jA n [])))):=by
 have h:=tC (O:=O) (e:=e) (K:=fun r=>r=.val' (.sl e.s.n 0 0 n (.is n)) (e.s.push (aU 0 (jA n [])))) aEh hl hc (Nat.le_refl n) (by omega) (by omega) (by rw [IP];exact List.all_eq_true.2 fun x hx=>(QV x (TK x hx)).2) (by rw [IP];rfl)
 obtain ⟨m,r,h1,h2⟩:=h
 constructor
 ·rintro ⟨m',r',h1',h2'⟩
  have:dR Tryz.prog (aO Tryz.prog O m') (.makeSlice 148 lo co) e=dR Tryz.prog (aO Tryz.prog O m) (.makeSlice 148 lo co) e:=rfl
  rw [this,h1]at h1'
  cases h1'
  rw [h2]at h2';exact h2'
 ·intro h;exact ⟨m,r,h1,by rw [h2];exact h⟩
def uK (N:Nat) (lo:Int):List Int->List Int->Bool
 | _,[]=>true
 | L,k::l=>(inR k lo ((N:Int)-1) && !decide (k∈L))&&uK N lo (L++[k]) l
def isT:AV->Bool
 | .bool b=>b
 | _=>false
def kJ (N:Nat) (nf:Int) (cs:List AV):List Int->Nat->List AV->Bool
 | L,_,[]=>(jA N L).all isT
 | L,i,x::l=>qP nf cs x&&(uK N ((i:Int)+1) L (bR x)&&kJ N nf cs (L++bR x) (i+1) l)
def lL (ns fs:List AV) (mm:Int) (cs:List AV):Bool:=
 decide ((ns.length:Int)<=300)&&(inR fs.length 1 ns.length&&(inR mm 0 ((fs.length:Int)-1)&&(qQ cs&&(uK ns.length 0 [] (fs.map AV.num)&&kJ ns.length fs.length cs (fs.map AV.num) 0 ns))))
abbrev MQ:List AV->Option AV:=wW (fun a b=>gY a/\dP b) fun a b=>.bool (qP (a.fld 1).els.length (a.fld 3).els b)
theorem rnodeV_ok:Abs.Ok Tryz.prog 67 MQ:=ok2 fun a b ⟨⟨ns,fs,mm,cs,e,h1,h2,h3,h4⟩,hb⟩=>by
 subst e
 exact YG ⟨h1,h2,h3,h4⟩ b hb
section
variable {ns fs mm cs:AV}
set_option maxHeartbeats 16000000 in
theorem MR (h:PG ns fs mm cs) (hcl:cs.els.length<=1000):Abs.Returns Tryz.prog 29 [pg ns fs mm cs] (.bool (lL ns.els fs.els mm.num cs.els)):=by
 obtain ⟨c1,c2,c3,c4⟩:=h.cells
 have hpg:=h
 have m1:MW [cs]=some (.bool (qQ cs.els)):=cR ⟨h.cs,hcl⟩
 have m2:∀ {x:AV},dP x->MQ [pg ns fs mm cs,x]=some (.bool (qP fs.els.length cs.els x)):=fun hx=>sg2_eq ⟨⟨_,_,_,_,rfl,h.ns,h.fs,h.mm,h.cs⟩,hx⟩
 obtain ⟨M,hM⟩:=h.mm
 refine aH (L:=[ent 65 eZ,ent 66 MW,ent 67 MQ]) (elist_cons rIn5_ok.ent (elist_cons rcons_ok.ent (elist_cons rnodeV_ok.ent aG))) (fun r=>(bif Nat.beq r 14 then [6] else [],[])) (by kernel_rfl) Tryz.func29 Tryz.ntmps29 Tryz.results29 rfl rfl (aC h.und.und aF) aJ ?_
 subst hM
 have hsp:lL ns.els fs.els (AV.int .i64 M).num cs.els=(decide ((ns.els.length:Int)<=300)&&(inR fs.els.length 1 ns.els.length&&(inR M 0 ((fs.els.length:Int)-1)&&(qQ cs.els&&(uK ns.els.length 0 [] (fs.els.map AV.num)&&kJ ns.els.length fs.els.length cs.els (fs.els.map AV.num) 0 ns.els))))):=rfl
 generalize lL ns.els fs.els (AV.int .i64 M).num cs.els=W at *
 obtain ⟨xn,hn0,hnx⟩:=h.ns
 obtain ⟨xf,hf0,hfx⟩:=h.fs
 obtain ⟨xc,hc0,hcx⟩:=h.cs
 have en:=hn0.els
 have ef:=hf0.els
 have ec:=hc0.els
 have w1:=bT hf0.2
 have w2:=bT hn0.2
 rw [en,ef,ec]at hsp
 rw [ec]at m1
 rw [ef,ec]at m2
 by_cases k1:((xn.length:Nat):Int) > 300
 ·rw [decide_eq_false (show ¬ ((xn.length:Nat):Int)<=300 by omega),Bool.false_and]at hsp
  simp +contextual +decide (maxSteps:=1000000) only [↓ wP,wQ,tf,Nat.reduceAdd,wS,reduceCtorEq,c1,c2,c3,c4,hn0.len,k1,hsp]
 rw [decide_eq_true (show ((xn.length:Nat):Int)<=300 by omega),Bool.true_and]at hsp
 cases k2:inR (xf.length:Nat) 1 (xn.length:Nat) with
 | false=>
   rw [k2,Bool.false_and]at hsp
   simp +contextual +decide (maxSteps:=1000000) only [↓ wP,wQ,tf,Nat.reduceAdd,wS,reduceCtorEq,c1,c2,c3,c4,hn0.len,hf0.len,hf0.stab,k1,aI,k2,hsp]
 | true=>
 rw [k2,Bool.true_and]at hsp
 cases k5:inR M 0 ((xf.length:Int)-1) with
 | false=>
   rw [k5,Bool.false_and]at hsp
   simp +contextual +decide (maxSteps:=1000000) only [↓ wP,wQ,tf,Nat.reduceAdd,wS,reduceCtorEq,c1,c2,c3,c4,hn0.len,hf0.len,hf0.stab,k1,k2,w1,aI,k5,hsp]
 | true=>
 rw [k5,Bool.true_and]at hsp
 cases k6:qQ xc with
 | false=>
   rw [k6,Bool.false_and]at hsp
   simp +contextual +decide (maxSteps:=1000000) only [↓ wP,wQ,tf,Nat.reduceAdd,wS,reduceCtorEq,c1,c2,c3,c4,hn0.len,hf0.len,hf0.stab,k1,k2,w1,aI,k5,m1,k6,hsp]
 | true=>
 rw [k6,Bool.true_and]at hsp
 simp +contextual +decide (maxSteps:=1000000) only [↓ wP,wQ,tf,Nat.reduceAdd,wS,reduceCtorEq,c1,c2,c3,c4,hn0.len,hf0.len,hf0.stab,k1,k2,w1,aI,k5,m1,k6,xS (n:=xn.length) (by omega),Sto.push_mk,cG]
 have hN:xn.length<=300:=by omega
 refine aQ (fun i e=>∃ t n low o,e=⟨133,none,29,t,[],⟨n,low,o⟩,.no⟩/\t.val 1=.ptr 0 0 0/\t.val 3=.int .i64 (xn.length:Nat)/\t.val 4=.sl 1 0 0 xn.length (.is xn.length)/\t.val 5=.int .i64 (i:Nat)/\o.get 0=some (aU 0 [ns,fs,.int .i64 M,cs])/\1<=n/\i<=xf.length/\(2<=n/\o.get 1=some (aU 0 (jA xn.length ((xf.take i).map AV.num))))/\W=(uK xn.length 0 ((xf.take i).map AV.num) ((xf.drop i).map AV.num)&&kJ xn.length xf.length xc (xf.map AV.num) 0 xn)) (fun i=>xf.length-i) 0 ⟨_,_,_,_,rfl,by simp +decide only [↓ aA,aE,aB],by simp +decide only [↓ aA,aE,aB],by simp +decide only [↓ aA,aE,aB],by simp +decide only [↓ aA,aE,aB];rfl,by simp +decide only [↓ aA,aL,aB,ne_eq],by omega,Nat.zero_le _,⟨⟨by omega,by rw [show (xf.take 0).map AV.num=[] from rfl];exact by simp +decide only [↓ aA,aL,aB,ne_eq]⟩,hsp⟩⟩ ?_
 rintro i _ ⟨t,n,low,o,rfl,t1,t3,t4,t5,g0,hn,hi,hq⟩
 have f0:=eY (show 0<n by omega)
 rcases Nat.lt_or_ge i xf.length with hlt | hge
 ·obtain ⟨⟨hn2,g1⟩,hq⟩:=hq
  have f1:=eY (show 1<n by omega)
  obtain ⟨y,hDy,hm,hg,hd,hix,hw,hc⟩:=bK (fun x h=>tu_int.len h) hfx hf0.2 hlt
  have hpf:=fun {d:Option AV}=>tu_int.pf hDy (d:=d)
  have hsn:=kT hg
  obtain ⟨z,rfl⟩:=hDy
  rw [show (AV.int .i64 z).num=z from rfl]at hsn
  rw [hd,List.map_cons,uK,show (AV.int .i64 z).num=z from rfl]at hq
  generalize (xf.take i).map AV.num=L0 at *
  cases k9:inR z 0 ((xn.length:Int)-1) with
  | false=>
    rw [k9,Bool.false_and,Bool.false_and,Bool.false_and]at hq
    simp +contextual +decide (maxSteps:=1000000) only [↓ wP,wQ,tf,Nat.reduceAdd,wS,reduceCtorEq,t1,t3,t4,t5,g0,g1,f0,f1,c1,c2,c3,c4,hf0.len,hf0.idx,hix,hc,hpf,w2,aI,k9,hq]
  | true=>
    rw [k9,Bool.true_and]at hq
    have hb:0<=z/\z<=(xn.length:Int)-1:=by simpa [inR] using k9
    have hz0:(0<=z)=True:=eq_true hb.1
    have hz1:(z<((xn.length:Nat):Int))=True:=eq_true (by omega)
    have hz2:(z.toNat<xn.length)=True:=eq_true (by omega)
    have hat:=FB (n:=xn.length) (L:=L0) hb.1 (show z<(xn.length:Int) by omega)
    have hset:=IO (n:=xn.length) (L:=L0) hb.1 (show z<(xn.length:Int) by omega)
    by_cases SJ:z∈L0
    ·rw [decide_eq_true SJ,Bool.not_true,Bool.false_and,Bool.false_and]at hq
     rw [decide_eq_true SJ]at hat
     simp +contextual +decide (maxSteps:=1000000) only [↓ wP,wQ,tf,Nat.reduceAdd,wS,reduceCtorEq,t1,t3,t4,t5,g0,g1,f0,f1,c1,c2,c3,c4,hf0.len,hf0.idx,hix,hc,hpf,w2,aI,k9,hz0,hz1,hz2,jT,hat,Nat.zero_add,Nat.mul_one,hq]
    ·rw [decide_eq_false SJ,Bool.not_false,Bool.true_and]at hq
     rw [decide_eq_false SJ]at hat
     simp +contextual +decide (maxSteps:=1000000) only [↓ wP,wQ,tf,Nat.reduceAdd,wS,reduceCtorEq,t1,t3,t4,t5,g0,g1,f0,f1,c1,c2,c3,c4,hf0.len,hf0.idx,hix,hc,hpf,w2,aI,k9,hz0,hz1,hz2,jT,hat,hset,hw,Nat.zero_add,Nat.mul_one,Sto.put_any]
     exact ⟨i+1,by show _-_<_-_;omega,_,_,_,_,rfl,by simp +decide only [↓ aA,aE,aB,t1],by simp +decide only [↓ aA,aE,aB,t3],by simp +decide only [↓ aA,aE,aB,t4],by simp +decide only [↓ aA,aE,aB],by simp +decide only [↓ aA,aL,aB,ne_eq,g0,f0,cG],by omega,hlt,⟨⟨hn2,by rw [hsn];exact by simp +decide only [↓ aA,aL,aB,ne_eq,f1]⟩,by rw [hsn];exact hq⟩⟩
 ·obtain rfl:i=xf.length:=Nat.le_antisymm hi hge
  obtain ⟨⟨hn2,g1⟩,hq⟩:=hq
  have f1:=eY (show 1<n by omega)
  rw [List.take_length]at g1
  rw [List.drop_length,List.map_nil,uK,Bool.true_and]at hq
  simp +contextual +decide (maxSteps:=1000000) only [↓ wP,wQ,tf,Nat.reduceAdd,wS,reduceCtorEq,t1,t3,t4,t5,g0,f0,c1,c2,c3,c4,hf0.len,bG]
  have hq1:=hq
  have hn1:=hn2
  clear hq hn2
  refine aQ (fun i e=>∃ t n low o,e=⟨133,none,29,t,[],⟨n,low,o⟩,.no⟩/\t.val 1=.ptr 0 0 0/\t.val 3=.int .i64 (xn.length:Nat)/\t.val 4=.sl 1 0 0 xn.length (.is xn.length)/\t.val 6=.int .i64 (i:Nat)/\o.get 0=some (aU 0 [ns,fs,.int .i64 M,cs])/\1<=n/\i<=xn.length/\(2<=n/\o.get 1=some (aU 0 (jA xn.length (xf.map AV.num++(xn.take i).flatMap bR))))/\W=kJ xn.length xf.length xc (xf.map AV.num++(xn.take i).flatMap bR) i (xn.drop i)) (fun i=>xn.length-i) 0 ⟨_,_,_,_,rfl,by simp +decide only [↓ aA,aE,aB,t1,t3,t4,g0,f0],by simp +decide only [↓ aA,aE,aB,t1,t3,t4,g0,f0],by simp +decide only [↓ aA,aE,aB,t1,t3,t4,g0,f0],by simp +decide only [↓ aA,aE,aB,t1,t3,t4,g0,f0];rfl,by simp +decide only [↓ aA,aL,aB,ne_eq,t1,t3,t4,g0,f0],by omega,Nat.zero_le _,⟨⟨hn1,by rw [show (xn.take 0).flatMap bR=[] from rfl,List.append_nil];exact by simp +decide only [↓ aA,aL,aB,ne_eq,g1,f1]⟩,by rw [show (xn.take 0).flatMap bR=[] from rfl,List.append_nil];exact hq1⟩⟩ ?_
  rintro i _ ⟨t,n,low,o,rfl,t1,t3,t4,t6,g0,hn,hi,hq⟩
  have f0:=eY (show 0<n by omega)
  rcases Nat.lt_or_ge i xn.length with hlt | hge
  ·obtain ⟨⟨hn2,g1⟩,hq⟩:=hq
   have f1:=eY (show 1<n by omega)
   obtain ⟨y,hDy,hm,hg,hd,hix,hw,hc⟩:=bK (fun x h=>tk_node.len h) hnx hn0.2 hlt
   have hpf:=fun {d:Option AV}=>tk_node.pf hDy (d:=d)
   have htk:(xn.take (i+1)).flatMap bR=(xn.take i).flatMap bR++bR y:=by rw [List.take_add_one,hg,List.flatMap_append];simp
   have m3:=m2 hDy
   rw [hd,kJ,List.append_assoc,<-htk]at hq
   obtain ⟨_,_,ki,pa,rfl,⟨op,rfl⟩,⟨nn,rfl⟩,hki,hpa⟩:=hDy
   have ck:=(aR _ hki).2
   have cp:=(eK _ hpa).2
   obtain ⟨xk,hk0,hkx⟩:=hki
   have hkI:bR (.agg [.int .i64 op,.int .i64 nn,ki,pa])=xk.map AV.num:=by
    rw [bR,show ((AV.agg [.int .i64 op,.int .i64 nn,ki,pa]).fld 2).els=xk from hk0.els]
   rw [hkI]at hq htk
   have hw4:IntKind.i64.wrap (((i:Nat):Int)+1)=((i:Nat):Int)+1:=IntWalk.i64_in _ (by omega)
   cases k9:qP xf.length xc (.agg [.int .i64 op,.int .i64 nn,ki,pa]) with
   | false=>
     rw [k9,Bool.false_and]at hq
     simp +contextual +decide (maxSteps:=1000000) only [↓ wP,wQ,tf,Nat.reduceAdd,wS,reduceCtorEq,t1,t3,t4,t6,g0,f0,c1,c2,c3,c4,ck,cp,hn0.idx,hix,hc,hpf,m3,k9,hq]
   | true=>
   rw [k9,Bool.true_and]at hq
   simp +contextual +decide (maxSteps:=1000000) only [↓ wP,wQ,tf,Nat.reduceAdd,wS,reduceCtorEq,t1,t3,t4,t6,g0,f0,c1,c2,c3,c4,ck,cp,hn0.idx,hix,hc,hpf,m3,k9]
   refine aQ (fun j e=>∃ t k low o,e=⟨133,none,29,t,[],⟨k,low,o⟩,.no⟩/\t.val 1=.ptr 0 0 0/\t.val 3=.int .i64 (xn.length:Nat)/\t.val 4=.sl 1 0 0 xn.length (.is xn.length)/\t.val 6=.int .i64 (i:Nat)/\t.val 7=.int .i64 (j:Nat)/\o.get 0=some (aU 0 [ns,fs,.int .i64 M,cs])/\2<=k/\j<=xk.length/\o.get 1=some (aU 0 (jA xn.length (xf.map AV.num++(xn.take i).flatMap bR++(xk.take j).map AV.num)))/\
    W=(uK xn.length ((i:Int)+1) (xf.map AV.num++(xn.take i).flatMap bR++(xk.take j).map AV.num) ((xk.drop j).map AV.num)&&kJ xn.length xf.length xc (xf.map AV.num++(xn.take (i+1)).flatMap bR) (i+1) (xn.drop (i+1)))) (fun j=>xk.length-j) 0
    ⟨_,_,_,_,rfl,by simp +decide only [↓ aA,aE,aB,t1],by simp +decide only [↓ aA,aE,aB,t3],by simp +decide only [↓ aA,aE,aB,t4],by simp +decide only [↓ aA,aE,aB,t6],by simp +decide only [↓ aA,aE,aB];rfl,by simp +decide only [↓ aA,aL,aB,ne_eq,g0,f0,cG],by omega,Nat.zero_le _,by rw [show (xk.take 0).map AV.num=[] from rfl,List.append_nil];exact by simp +decide only [↓ aA,aL,aB,ne_eq,g1,f1,cG],by rw [hq,show (xk.take 0).map AV.num=[] from rfl,List.append_nil];rfl⟩ ?_
   clear t1 t3 t4 t6 g0 f0 f1 hq hn hn2 g1
   clear t
   rintro j _ ⟨t,k,low,o,rfl,t1,t3,t4,t6,t7,g0,hk2,hj,g1,hq⟩
   have f0:=eY (show 0<k by omega)
   have f1:=eY (show 1<k by omega)
   rcases Nat.lt_or_ge j xk.length with hjt | hjg
   ·obtain ⟨y2,hDy2,hm2,hg2,hd2,hix2,hw2,hc2⟩:=bK (fun x h=>tu_int.len h) hkx hk0.2 hjt
    have hpf2:=fun {d:Option AV}=>tu_int.pf hDy2 (d:=d)
    have hsn:=kT hg2
    obtain ⟨z,rfl⟩:=hDy2
    rw [show (AV.int .i64 z).num=z from rfl]at hsn
    rw [hd2,List.map_cons,uK,show (AV.int .i64 z).num=z from rfl]at hq
    have hsn':xf.map AV.num++(xn.take i).flatMap bR++(xk.take (j+1)).map AV.num=xf.map AV.num++(xn.take i).flatMap bR++(xk.take j).map AV.num++[z]:=by rw [hsn];simp
    generalize xf.map AV.num++(xn.take i).flatMap bR++(xk.take j).map AV.num=L0 at *
    cases k9:inR z ((i:Int)+1) ((xn.length:Int)-1) with
    | false=>
      rw [k9,Bool.false_and,Bool.false_and,Bool.false_and]at hq
      simp +contextual +decide (maxSteps:=1000000) only [↓ wP,wQ,tf,Nat.reduceAdd,wS,reduceCtorEq,t1,t3,t4,t6,t7,g0,g1,f0,f1,c1,c2,c3,c4,ck,cp,hn0.idx,hix,hk0.len,hk0.idx,hix2,hc2,hpf2,w2,hw4,aI,k9,hq]
    | true=>
      rw [k9,Bool.true_and]at hq
      have hb:(i:Int)+1<=z/\z<=(xn.length:Int)-1:=by simpa [inR] using k9
      have hz0:(0<=z)=True:=eq_true (by omega)
      have hz1:(z<((xn.length:Nat):Int))=True:=eq_true (by omega)
      have hz2:(z.toNat<xn.length)=True:=eq_true (by omega)
      have hat:=FB (n:=xn.length) (L:=L0) (show 0<=z by omega) (show z<(xn.length:Int) by omega)
      have hset:=IO (n:=xn.length) (L:=L0) (show 0<=z by omega) (show z<(xn.length:Int) by omega)
      by_cases SJ:z∈L0
      ·rw [decide_eq_true SJ,Bool.not_true,Bool.false_and,Bool.false_and]at hq
       rw [decide_eq_true SJ]at hat
       simp +contextual +decide (maxSteps:=1000000) only [↓ wP,wQ,tf,Nat.reduceAdd,wS,reduceCtorEq,t1,t3,t4,t6,t7,g0,g1,f0,f1,c1,c2,c3,c4,ck,cp,hn0.idx,hix,hk0.len,hk0.idx,hix2,hc2,hpf2,w2,hw4,aI,k9,hz0,hz1,hz2,jT,hat,Nat.zero_add,Nat.mul_one,hq]
      ·rw [decide_eq_false SJ,Bool.not_false,Bool.true_and]at hq
       rw [decide_eq_false SJ]at hat
       simp +contextual +decide (maxSteps:=1000000) only [↓ wP,wQ,tf,Nat.reduceAdd,wS,reduceCtorEq,t1,t3,t4,t6,t7,g0,g1,f0,f1,c1,c2,c3,c4,ck,cp,hn0.idx,hix,hk0.len,hk0.idx,hix2,hc2,hpf2,w2,hw4,aI,k9,hz0,hz1,hz2,jT,hat,hset,hw2,Nat.zero_add,Nat.mul_one,Sto.put_any]
       exact ⟨j+1,by show _-_<_-_;omega,_,_,_,_,rfl,by simp +decide only [↓ aA,aE,aB,t1],by simp +decide only [↓ aA,aE,aB,t3],by simp +decide only [↓ aA,aE,aB,t4],by simp +decide only [↓ aA,aE,aB,t6],by simp +decide only [↓ aA,aE,aB],by simp +decide only [↓ aA,aL,aB,ne_eq,g0,f0],hk2,hjt,by rw [hsn'];exact by simp +decide only [↓ aA,aL,aB,ne_eq,f1],by rw [hsn'];exact hq⟩
   ·obtain rfl:j=xk.length:=Nat.le_antisymm hj hjg
    rw [List.take_length,List.append_assoc,<-htk]at g1
    rw [List.drop_length,List.map_nil,uK,Bool.true_and]at hq
    simp +contextual +decide (maxSteps:=1000000) only [↓ wP,wQ,tf,Nat.reduceAdd,wS,reduceCtorEq,t1,t3,t4,t6,t7,g0,f0,c1,c2,c3,c4,ck,cp,hn0.idx,hix,hk0.len,bG,hw]
    exact ⟨i+1,by show _-_<_-_;omega,_,_,_,_,rfl,by simp +decide only [↓ aA,aE,aB,t1],by simp +decide only [↓ aA,aE,aB,t3],by simp +decide only [↓ aA,aE,aB,t4],by simp +decide only [↓ aA,aE,aB],by simp +decide only [↓ aA,aL,aB,ne_eq,g0,f0],by omega,hlt,⟨hk2,by simp +decide only [↓ aA,aL,aB,ne_eq,g1,f1]⟩,hq⟩
  ·obtain rfl:i=xn.length:=Nat.le_antisymm hi hge
   obtain ⟨⟨hn2,g1⟩,hq⟩:=hq
   have f1:=eY (show 1<n by omega)
   rw [List.take_length]at g1
   rw [List.drop_length,kJ,List.take_length]at hq
   generalize xf.map AV.num++xn.flatMap bR=L0 at *
   simp +contextual +decide (maxSteps:=1000000) only [↓ wP,wQ,tf,Nat.reduceAdd,wS,reduceCtorEq,t1,t3,t4,t6,bG]
   have hq1:=hq
   have hn1:=hn2
   clear hq hn2
   refine aQ (fun i e=>∃ t n low o,e=⟨133,none,29,t,[],⟨n,low,o⟩,.no⟩/\t.val 3=.int .i64 (xn.length:Nat)/\t.val 4=.sl 1 0 0 xn.length (.is xn.length)/\t.val 9=.int .i64 (i:Nat)/\o.get 1=some (aU 0 (jA xn.length L0))/\2<=n/\i<=xn.length/\2<=n/\W=((jA xn.length L0).drop i).all isT) (fun i=>xn.length-i) 0 ⟨_,_,_,_,rfl,by simp +decide only [↓ aA,aE,aB,t3,t4,g1,f1],by simp +decide only [↓ aA,aE,aB,t3,t4,g1,f1],by simp +decide only [↓ aA,aE,aB,t3,t4,g1,f1];rfl,by simp +decide only [↓ aA,aL,aB,ne_eq,t3,t4,g1,f1],by omega,Nat.zero_le _,⟨hn1,hq1⟩⟩ ?_
   rintro i _ ⟨t,n,low,o,rfl,t3,t4,t9,g1,hn,hi,hq⟩
   have f1:=eY (show 1<n by omega)
   rcases Nat.lt_or_ge i xn.length with hlt | hge
   ·obtain ⟨hn2,hq⟩:=hq
    have hz0:((0:Int)<=(i:Nat))=True:=eq_true (by omega)
    have hz1:(((i:Nat):Int)<((xn.length:Nat):Int))=True:=eq_true (by omega)
    have hz2:(i<xn.length)=True:=eq_true (by omega)
    have hw:IntKind.i64.wrap (((i:Nat):Int)+1)=((i+1:Nat):Int):=by rw [IntWalk.i64_in _ (by omega)];rfl
    have hat:=FB (n:=xn.length) (L:=L0) (f:=i) (by omega) (by omega)
    rw [Int.toNat_natCast]at hat
    have hd:(jA xn.length L0).drop i=.bool (decide ((i:Int)∈L0))::(jA xn.length L0).drop (i+1):=by
     have hi':i<(jA xn.length L0).length:=by rw [jT];exact hlt
     rw [List.drop_eq_getElem_cons hi']
     congr 1
     rw [List.getElem?_eq_getElem hi']at hat
     exact Option.some.inj hat
    rw [hd,List.all_cons,show isT (.bool (decide ((i:Int)∈L0)))=decide ((i:Int)∈L0) from rfl]at hq
    by_cases SJ:(i:Int)∈L0
    ·rw [decide_eq_true SJ]at hq hat
     rw [Bool.true_and]at hq
     simp +contextual +decide (maxSteps:=1000000) only [↓ wP,wQ,tf,Nat.reduceAdd,wS,reduceCtorEq,t3,t4,t9,g1,f1,hz0,hz1,hz2,jT,hat,hw,Int.toNat_natCast,Nat.zero_add,Nat.mul_one]
     exact ⟨i+1,by show _-_<_-_;omega,_,_,_,_,rfl,by simp +decide only [↓ aA,aE,aB,t3],by simp +decide only [↓ aA,aE,aB,t4],by simp +decide only [↓ aA,aE,aB],by simp +decide only [↓ aA,aL,aB,ne_eq,g1,f1,cG],by omega,hlt,⟨hn2,hq⟩⟩
    ·rw [decide_eq_false SJ]at hq hat
     rw [Bool.false_and]at hq
     simp +contextual +decide (maxSteps:=1000000) only [↓ wP,wQ,tf,Nat.reduceAdd,wS,reduceCtorEq,t3,t4,t9,g1,f1,hz0,hz1,hz2,jT,hat,hw,Int.toNat_natCast,Nat.zero_add,Nat.mul_one,hq]
   ·obtain rfl:i=xn.length:=Nat.le_antisymm hi hge
    obtain ⟨hn2,hq⟩:=hq
    rw [List.drop_eq_nil_of_le (by rw [jT];exact Nat.le_refl _),List.all_nil]at hq
    simp +contextual +decide (maxSteps:=1000000) only [↓ wP,wQ,tf,Nat.reduceAdd,wS,reduceCtorEq,t3,t4,t9,bG,hq]
end
def MS:Nat->AV->Bool
 | 0,_=>true
 | d+1,a=>(a.fld 3).els.all (MS d)&&decide (((a.fld 2).txt.length:Int)<=30)
theorem YF:∀ {d d':Nat} {a:AV},TPatN d a->TPatN d' a->MS d a=MS d' a
 | 0,_,_,h,_=>h.elim
 | _,0,_,_,h=>h.elim
 | d+1,d'+1,a,h,h'=>by
   obtain ⟨x,y,z,u,rfl,_,_,_,xs,hs,hx⟩:=h
   obtain ⟨_,_,_,_,e,_,_,_,xs',hs',hx'⟩:=h'
   cases e
   have:xs=xs':=by rw [<-hs.els,hs'.els]
   subst this
   have hu:((AV.agg [x,y,z,u]).fld 3).els=xs:=hs.els
   simp only [MS,hu]
   rw [tQ fun q hq=>YF (hx q hq) (hx' q hq)]
abbrev spV (d:Nat):List AV->Option AV:=tB (TPatN d) fun a=>.bool (MS d a)
set_option maxHeartbeats 1000000 in
theorem aHt:∀ d,Abs.Ok Tryz.prog 77 (spV d)
 | 0=>yR fun a h=>h.elim
 | d+1=>yR fun a ha=>by
   have hua:=(bZ (d+1) a ha).1
   obtain ⟨fo,nu,st,pa,rfl,hfo,hnu,⟨s,rfl,hst⟩,hp⟩:=ha
   have c1:=(tu_int _ hfo).2
   have c2:=(tu_int _ hnu).2
   have cp:=(iH (jE (bZ d)) _ hp).2
   obtain ⟨xs,hs,hxs⟩:=hp
   have hl:=hs.2
   refine aH (L:=[ent 77 (spV d)]) (elist_cons (aHt d).ent aG) aN (by kernel_rfl) Tryz.func77 Tryz.ntmps77 Tryz.results77 rfl rfl (aC hua.und aF) aJ ?_
   have hsp:MS (d+1) (.agg [fo,nu,.str s,pa])=(xs.all (MS d)&&decide ((s.length:Int)<=30)):=by
    rw [MS,show ((AV.agg [fo,nu,.str s,pa]).fld 3).els=xs from hs.els];rfl
   generalize MS (d+1) (.agg [fo,nu,.str s,pa])=W at *
   simp +contextual +decide (maxSteps:=1000000) only [↓ wP,wQ,tf,Nat.reduceAdd,wS,reduceCtorEq,c1,c2,cp]
   refine aQ (fun i e=>∃ t n low o,e=⟨22,none,77,t,[],⟨n,low,o⟩,.no⟩/\t.val 1=.ptr 0 0 0/\t.val 3=.int .i64 (i:Nat)/\o.get 0=some (aU 0 [fo,nu,.str s,pa])/\1<=n/\i<=xs.length/\W=((xs.drop i).all (MS d)&&decide ((s.length:Int)<=30))) (fun i=>xs.length-i) 0 ⟨_,_,_,_,rfl,by simp +decide only [↓ aA,aE,aB],by simp +decide only [↓ aA,aE,aB];rfl,by simp +decide only [↓ aA,aL,aB,ne_eq],by omega,Nat.zero_le _,hsp⟩ ?_
   rintro i _ ⟨t,n,low,o,rfl,t1,t3,g0,hn,hi,hq⟩
   have f0:=eY (show 0<n by omega)
   rcases Nat.lt_or_ge i xs.length with hlt | hge
   ·obtain ⟨y,hDy,hm,hg,hd,hix,hw,hc⟩:=bK (fun x h=>(bZ d).len h) hxs hl hlt
    have hpf:=fun {d':Option AV}=>(bZ d).pf hDy (d:=d')
    have he:spV d [y]=some (.bool (MS d y)):=cR hDy
    rw [hd,List.all_cons]at hq
    cases k1:MS d y with
    | false=>
      rw [k1,Bool.false_and,Bool.false_and]at hq
      simp +contextual +decide (maxSteps:=1000000) only [↓ wP,wQ,tf,Nat.reduceAdd,wS,reduceCtorEq,t1,t3,g0,f0,c1,c2,cp,hs.len,hs.idx,hix,hc,hpf,he,k1,hq]
    | true=>
      rw [k1,Bool.true_and]at hq
      simp +contextual +decide (maxSteps:=1000000) only [↓ wP,wQ,tf,Nat.reduceAdd,wS,reduceCtorEq,t1,t3,g0,f0,c1,c2,cp,hs.len,hs.idx,hix,hc,hpf,he,k1,hw]
      exact ⟨i+1,by show _-_<_-_;omega,_,_,_,_,rfl,by simp +decide only [↓ aA,aE,aB,t1],by simp +decide only [↓ aA,aE,aB],by simp +decide only [↓ aA,aL,aB,ne_eq,g0,f0,cG],by omega,hlt,hq⟩
   ·obtain rfl:i=xs.length:=Nat.le_antisymm hi hge
    rw [List.drop_length,List.all_nil,Bool.true_and]at hq
    simp +contextual +decide (maxSteps:=1000000) only [↓ wP,wQ,tf,Nat.reduceAdd,wS,reduceCtorEq,t1,t3,g0,f0,c1,c2,cp,hs.len,bG,hq]
def gV (a:AV):Bool:=decide (nT (depth a) a<=16)&&MS (depth a) a
theorem FC {d:Nat} {a:AV} (h:TPatN d a):gV a=(decide (nT d a<=16)&&MS d a):=by
 have h':=IT ⟨d,h⟩
 rw [gV,FI h' h,YF h' h]
abbrev wK:List AV->Option AV:=tB tT fun a=>.bool (gV a)
theorem smallPat_ok:Abs.Ok Tryz.prog 37 wK:=yR fun a ha=>by
 have hua:=(tk_pat a ha).1
 obtain ⟨d,ha⟩:=ha
 rw [FC ha]
 have he:spV d [a]=some (.bool (MS d a)):=cR ha
 have he2:tO d [a,.int .i64 16]=some (.int .i64 (wN d a 16)):=sg2_eq ⟨ha,_,rfl,by omega,by omega⟩
 have hwn:=QJ d a 16 ha (by omega)
 obtain ⟨ys,rfl,hyl,hyc⟩:=(bZ d a ha).2
 have hz:0+4<=ys.length:=by omega
 refine aH (L:=[ent 76 (tO d),ent 77 (spV d)]) (elist_cons (AC d).ent (elist_cons (aHt d).ent aG)) aN (by kernel_rfl) Tryz.func37 Tryz.ntmps37 Tryz.results37 rfl rfl (aC hua.und aF) aJ ?_
 by_cases k1:nT d (.agg ys)<=16
 ·have k2:(wN d (.agg ys) 16 ≥ 0)=True:=eq_true (by rw [hwn];split<;>omega)
  have k2':((0:Int)<=wN d (.agg ys) 16)=True:=k2
  simp +contextual +decide (maxSteps:=1000000) only [↓ wP,wQ,tf,Nat.reduceAdd,wS,reduceCtorEq,hyl,hyc,hz,oA hyl,he,he2,k1,k2,k2']
 ·have k2:(wN d (.agg ys) 16 ≥ 0)=False:=eq_false (by rw [hwn];split<;>omega)
  have k2':((0:Int)<=wN d (.agg ys) 16)=False:=k2
  simp +contextual +decide (maxSteps:=1000000) only [↓ wP,wQ,tf,Nat.reduceAdd,wS,reduceCtorEq,hyl,hyc,hz,oA hyl,he,he2,k1,k2,k2']
def lE (x:AV):Bool:=decide (((x.fld 2).els.length:Int)<=10)&&(decide (((x.fld 3).els.length:Int)<=10)&&(x.fld 3).els.all gV)
def uL (x:AV):Bool:=decide (((x.fld 0).txt.length:Int)<=40)
def dE (ns fs cs:List AV):Bool:=decide ((ns.length:Int)<=320)&&(decide ((fs.length:Int)<=320)&&(decide ((cs.length:Int)<=25)&&(cs.all uL&&ns.all lE)))
section
variable {ns fs mm cs:AV}
set_option maxHeartbeats 16000000 in
theorem FD (h:PG ns fs mm cs):Abs.Returns Tryz.prog 11 [pg ns fs mm cs] (.bool (dE ns.els fs.els cs.els)):=by
 obtain ⟨c1,c2,c3,c4⟩:=h.cells
 refine aH (L:=[ent 37 wK]) (elist_cons smallPat_ok.ent aG) aN (by kernel_rfl) Tryz.func11 Tryz.ntmps11 Tryz.results11 rfl rfl (aC h.und.und aF) aJ ?_
 obtain ⟨xn,hn0,hnx⟩:=h.ns
 obtain ⟨xf,hf0,hfx⟩:=h.fs
 obtain ⟨xc,hc0,hcx⟩:=h.cs
 rw [hn0.els,hf0.els,hc0.els]
 have hsp:dE xn xf xc=(decide ((xn.length:Int)<=320)&&(decide ((xf.length:Int)<=320)&&(decide ((xc.length:Int)<=25)&&(xc.all uL&&xn.all lE)))):=rfl
 generalize dE xn xf xc=W at *
 by_cases k1:((xn.length:Nat):Int) > 320
 ·rw [decide_eq_false (show ¬ ((xn.length:Nat):Int)<=320 by omega),Bool.false_and]at hsp
  simp +contextual +decide (maxSteps:=1000000) only [↓ wP,wQ,tf,Nat.reduceAdd,wS,reduceCtorEq,c1,c2,c3,c4,hn0.len,k1,hsp]
 by_cases k2:((xf.length:Nat):Int) > 320
 ·rw [decide_eq_false (show ¬ ((xf.length:Nat):Int)<=320 by omega),Bool.false_and,Bool.and_false]at hsp
  simp +contextual +decide (maxSteps:=1000000) only [↓ wP,wQ,tf,Nat.reduceAdd,wS,reduceCtorEq,c1,c2,c3,c4,hn0.len,hf0.len,k1,k2,hsp]
 by_cases k3:((xc.length:Nat):Int) > 25
 ·rw [decide_eq_false (show ¬ ((xc.length:Nat):Int)<=25 by omega),Bool.false_and,Bool.and_false,Bool.and_false]at hsp
  simp +contextual +decide (maxSteps:=1000000) only [↓ wP,wQ,tf,Nat.reduceAdd,wS,reduceCtorEq,c1,c2,c3,c4,hn0.len,hf0.len,hc0.len,k1,k2,k3,hsp]
 rw [decide_eq_true (show ((xn.length:Nat):Int)<=320 by omega),Bool.true_and,decide_eq_true (show ((xf.length:Nat):Int)<=320 by omega),Bool.true_and,decide_eq_true (show ((xc.length:Nat):Int)<=25 by omega),Bool.true_and]at hsp
 simp +contextual +decide (maxSteps:=1000000) only [↓ wP,wQ,tf,Nat.reduceAdd,wS,reduceCtorEq,c1,c2,c3,c4,hn0.len,hf0.len,hc0.len,k1,k2,k3]
 refine aQ (fun i e=>∃ t n low o,e=⟨74,none,11,t,[],⟨n,low,o⟩,.no⟩/\t.val 1=.ptr 0 0 0/\t.val 3=.int .i64 (i:Nat)/\o.get 0=some (aU 0 [ns,fs,mm,cs])/\1<=n/\i<=xc.length/\W=((xc.drop i).all uL&&xn.all lE)) (fun i=>xc.length-i) 0 ⟨_,_,_,_,rfl,by simp +decide only [↓ aA,aE,aB],by simp +decide only [↓ aA,aE,aB];rfl,by simp +decide only [↓ aA,aL,aB,ne_eq],by omega,Nat.zero_le _,hsp⟩ ?_
 rintro i _ ⟨t,n,low,o,rfl,t1,t3,g0,hn,hi,hq⟩
 have f0:=eY (show 0<n by omega)
 rcases Nat.lt_or_ge i xc.length with hlt | hge
 ·obtain ⟨y,hDy,hm,hg,hd,hix,hw,hc⟩:=bK (fun x h=>tk_con.len h) hcx hc0.2 hlt
  rw [hd,List.all_cons]at hq
  obtain ⟨_,_,rfl,⟨s,rfl,hs'⟩,⟨m,rfl⟩⟩:=hDy
  rw [show uL (.agg [.str s,.int .i64 m])=decide ((s.length:Int)<=40) from rfl]at hq
  by_cases k4:((s.length:Nat):Int) > 40
  ·rw [decide_eq_false (show ¬ ((s.length:Nat):Int)<=40 by omega),Bool.false_and,Bool.false_and]at hq
   simp +contextual +decide (maxSteps:=1000000) only [↓ wP,wQ,tf,Nat.reduceAdd,wS,reduceCtorEq,t1,t3,g0,f0,c1,c2,c3,c4,hc0.len,hc0.idx,hix,hc,k4,hq]
  ·rw [decide_eq_true (show ((s.length:Nat):Int)<=40 by omega),Bool.true_and]at hq
   simp +contextual +decide (maxSteps:=1000000) only [↓ wP,wQ,tf,Nat.reduceAdd,wS,reduceCtorEq,t1,t3,g0,f0,c1,c2,c3,c4,hc0.len,hc0.idx,hix,hc,k4,hw]
   exact ⟨i+1,by show _-_<_-_;omega,_,_,_,_,rfl,by simp +decide only [↓ aA,aE,aB,t1],by simp +decide only [↓ aA,aE,aB],by simp +decide only [↓ aA,aL,aB,ne_eq,g0,f0,cG],by omega,hlt,hq⟩
 ·obtain rfl:i=xc.length:=Nat.le_antisymm hi hge
  rw [List.drop_length,List.all_nil,Bool.true_and]at hq
  simp +contextual +decide (maxSteps:=1000000) only [↓ wP,wQ,tf,Nat.reduceAdd,wS,reduceCtorEq,t1,t3,g0,f0,c1,c2,c3,c4,hc0.len,bG]
  have hq1:=hq
  clear hq
  refine aQ (fun i e=>∃ t n low o,e=⟨74,none,11,t,[],⟨n,low,o⟩,.no⟩/\t.val 1=.ptr 0 0 0/\t.val 4=.int .i64 (i:Nat)/\o.get 0=some (aU 0 [ns,fs,mm,cs])/\1<=n/\i<=xn.length/\W=(xn.drop i).all lE) (fun i=>xn.length-i) 0 ⟨_,_,_,_,rfl,by simp +decide only [↓ aA,aE,aB,t1,g0,f0],by simp +decide only [↓ aA,aE,aB,t1,g0,f0];rfl,by simp +decide only [↓ aA,aL,aB,ne_eq,t1,g0,f0],by omega,Nat.zero_le _,hq1⟩ ?_
  rintro i _ ⟨t,n,low,o,rfl,t1,t4,g0,hn,hi,hq⟩
  have f0:=eY (show 0<n by omega)
  rcases Nat.lt_or_ge i xn.length with hlt | hge
  ·obtain ⟨y,hDy,hm,hg,hd,hix,hw,hc⟩:=bK (fun x h=>tk_node.len h) hnx hn0.2 hlt
   have hpf:=fun {d:Option AV}=>tk_node.pf hDy (d:=d)
   rw [hd,List.all_cons]at hq
   obtain ⟨_,_,ki,pa,rfl,⟨op,rfl⟩,⟨nn,rfl⟩,hki,hpa⟩:=hDy
   have ck:=(aR _ hki).2
   have cp:=(eK _ hpa).2
   obtain ⟨xk,hk0,hkx⟩:=hki
   obtain ⟨xp,hp0,hpx⟩:=hpa
   rw [show lE (.agg [.int .i64 op,.int .i64 nn,ki,pa])=(decide ((xk.length:Int)<=10)&&(decide ((xp.length:Int)<=10)&&xp.all gV)) by rw [<-hk0.els,<-hp0.els];rfl]at hq
   by_cases k4:((xk.length:Nat):Int) > 10
   ·rw [decide_eq_false (show ¬ ((xk.length:Nat):Int)<=10 by omega),Bool.false_and,Bool.false_and]at hq
    simp +contextual +decide (maxSteps:=1000000) only [↓ wP,wQ,tf,Nat.reduceAdd,wS,reduceCtorEq,t1,t4,g0,f0,c1,c2,c3,c4,ck,cp,hn0.len,hn0.idx,hix,hc,hpf,hk0.len,k4,cG,hq]
   by_cases k5:((xp.length:Nat):Int) > 10
   ·rw [decide_eq_false (show ¬ ((xp.length:Nat):Int)<=10 by omega),Bool.false_and,Bool.and_false,Bool.false_and]at hq
    simp +contextual +decide (maxSteps:=1000000) only [↓ wP,wQ,tf,Nat.reduceAdd,wS,reduceCtorEq,t1,t4,g0,f0,c1,c2,c3,c4,ck,cp,hn0.len,hn0.idx,hix,hc,hpf,hk0.len,k4,hp0.len,k5,cG,hq]
   rw [decide_eq_true (show ((xk.length:Nat):Int)<=10 by omega),Bool.true_and,decide_eq_true (show ((xp.length:Nat):Int)<=10 by omega),Bool.true_and]at hq
   simp +contextual +decide (maxSteps:=1000000) only [↓ wP,wQ,tf,Nat.reduceAdd,wS,reduceCtorEq,t1,t4,g0,f0,c1,c2,c3,c4,ck,cp,hn0.len,hn0.idx,hix,hc,hpf,hk0.len,k4,hp0.len,k5,cG]
   refine aQ (fun j e=>∃ t k low o m,e=⟨74,none,11,t,[],⟨k,low,o⟩,.no⟩/\t.val 1=.ptr 0 0 0/\t.val 4=.int .i64 (i:Nat)/\t.val 5=.ptr m 0 0/\t.val 6=.int .i64 (j:Nat)/\o.get 0=some (aU 0 [ns,fs,mm,cs])/\o.get m=some (aU 0 [.int .i64 op,.int .i64 nn,ki,pa])/\0<k/\m<k/\j<=xp.length/\W=((xp.drop j).all gV&&(xn.drop (i+1)).all lE)) (fun j=>xp.length-j) 0
    ⟨_,_,_,_,n,rfl,by simp +decide only [↓ aA,aE,aB,t1],by simp +decide only [↓ aA,aE,aB,t4],by simp +decide only [↓ aA,aE,aB],by simp +decide only [↓ aA,aE,aB];rfl,by simp +decide only [↓ aA,aL,aB,ne_eq,g0,f0,cG],by simp +decide only [↓ aA,aL,aB,ne_eq,cG],by omega,by omega,Nat.zero_le _,hq⟩ ?_
   clear t1 t4 g0 f0 hq hn
   clear t
   rintro j _ ⟨t,k,low,o,m,rfl,t1,t4,t5,t6,g0,gm,hk1,hk2,hj,hq⟩
   have f0:=eY hk1
   have fm:=eY hk2
   rcases Nat.lt_or_ge j xp.length with hjt | hjg
   ·obtain ⟨y2,hDy2,hm2,hg2,hd2,hix2,hw2,hc2⟩:=bK (fun x h=>tk_pat.len h) hpx hp0.2 hjt
    have hpf2:=fun {d:Option AV}=>tk_pat.pf hDy2 (d:=d)
    have he:wK [y2]=some (.bool (gV y2)):=cR hDy2
    rw [hd2,List.all_cons]at hq
    cases k6:gV y2 with
    | false=>
      rw [k6,Bool.false_and,Bool.false_and]at hq
      simp +contextual +decide (maxSteps:=1000000) only [↓ wP,wQ,tf,Nat.reduceAdd,wS,reduceCtorEq,t1,t4,t5,t6,g0,gm,f0,fm,ck,cp,hp0.len,hp0.idx,hix2,hc2,hpf2,he,k6,hq]
    | true=>
      rw [k6,Bool.true_and]at hq
      simp +contextual +decide (maxSteps:=1000000) only [↓ wP,wQ,tf,Nat.reduceAdd,wS,reduceCtorEq,t1,t4,t5,t6,g0,gm,f0,fm,ck,cp,hp0.len,hp0.idx,hix2,hc2,hpf2,he,k6,hw2]
      exact ⟨j+1,by show _-_<_-_;omega,_,_,_,_,_,rfl,by simp +decide only [↓ aA,aE,aB,t1],by simp +decide only [↓ aA,aE,aB,t4],by simp +decide only [↓ aA,aE,aB,t5],by simp +decide only [↓ aA,aE,aB],by simp +decide only [↓ aA,aL,aB,ne_eq,g0,f0],by simp +decide only [↓ aA,aL,aB,ne_eq,gm,fm],hk1,hk2,hjt,hq⟩
   ·obtain rfl:j=xp.length:=Nat.le_antisymm hj hjg
    rw [List.drop_length,List.all_nil,Bool.true_and]at hq
    simp +contextual +decide (maxSteps:=1000000) only [↓ wP,wQ,tf,Nat.reduceAdd,wS,reduceCtorEq,t1,t4,t5,t6,g0,gm,f0,fm,ck,cp,hp0.len,bG,hw]
    exact ⟨i+1,by show _-_<_-_;omega,_,_,_,_,rfl,by simp +decide only [↓ aA,aE,aB,t1],by simp +decide only [↓ aA,aE,aB],by simp +decide only [↓ aA,aL,aB,ne_eq,g0,f0],hk1,hlt,hq⟩
  ·obtain rfl:i=xn.length:=Nat.le_antisymm hi hge
   rw [List.drop_length,List.all_nil]at hq
   simp +contextual +decide (maxSteps:=1000000) only [↓ wP,wQ,tf,Nat.reduceAdd,wS,reduceCtorEq,t1,t4,g0,f0,c1,c2,c3,c4,hn0.len,bG,hq]
end
end
end Go.Proofs.YthakciolcdlphaaGreat
