/-
  The reference of programs: how many Kids, and nodes.
-/
import Derived.Test.YtifmdaalhclhgaaGreatOc
set_option linter.unusedVariables false
set_option linter.unusedSimpArgs false
namespace Go.Proofs.YtifmdaalhclhgaaGreat
open Go.Abs Go Go.Abs.TryzF
noncomputable section
set_option maxRecDepth 10000
def iF (m k:Int):KidsK->Int
 | .fixed j=>j
 | .con=>k
 | .mat=>IntKind.i64.wrap (1+m)
 | .none=>-1
abbrev RK:List AV->Option AV:=VY (fun a b c=>cA a/\cA b/\cA c) fun a b c=>.int .i64 (iF b.num c.num (bO a.num))
set_option maxHeartbeats 8000000 in
theorem rkids_ok:Abs.Ok Tryz.prog 175 RK:=ok3 fun a b c ⟨ha,⟨m,hb⟩,hc⟩=>by
 obtain ⟨op,rfl⟩:=ha;obtain ⟨k,rfl⟩:=hc;subst hb;refine aF (L:=[]) aD aN (by kernel_rfl) Tryz.func175 Tryz.ntmps175 Tryz.results175 rfl rfl (aA aT (aA aT (aA aT aC))) aT ?_;show Wk _ _ _ _ _ (iA _ _ (fun _ r=>r=.int .i64 (iF m k (bO op))) _)
 rcases DB op with rfl | rfl | rfl | rfl | rfl | rfl | rfl | rfl | rfl | rfl | rfl | rfl | rfl | rfl | rfl | rfl | rfl | rfl | rfl | rfl | rfl | rfl | rfl | rfl | rfl | rfl | rfl | rfl | h
 case inr.inr.inr.inr.inr.inr.inr.inr.inr.inr.inr.inr.inr.inr.inr.inr.inr.inr.inr.inr.inr.inr.inr.inr.inr.inr.inr.inr=>
  refine FJ @h ?_;simp [bO,h,iF]
 all_goals refine GY ?_;rfl
def AF (nf:Int) (cs:List AV) (op n:Int):Bool:=
 if op=1 then oZ n else if op=2 then inR n 0 1 else if op=4 then inR n (-nf) 29 else if op=24 then inR n 0 3 else if op=14 then inR n 0 ((cs.length:Int)-1) else decide (n=0)
def rW (nf:Int) (cs:List AV) (x:AV):Bool:=
 let op:=(x.fld 0).num;let n:=(x.fld 1).num;let kl:Int:=(x.fld 2).els.length;let pl:Int:=(x.fld 3).els.length
 (AF nf cs op n&&if op=15 then inR pl 1 5 else decide (pl=0))&&((x.fld 3).els.all (lR cs)&&decide (kl=iF pl (if op=14 then ((cs.getD n.toNat .top).fld 1).num else 0) (bO op)))
theorem aUx {xp:List AV} (h:∀ x∈xp,vP x):∃ d,∀ x∈xp,TPatN d x:=by
 induction xp with
 | nil=>exact ⟨0,fun x hx=>nomatch hx⟩
 | cons y l ih=>
   obtain ⟨d,hd⟩:=ih fun x hx=>h x (List.mem_cons_of_mem _ hx)
   obtain ⟨d',hd'⟩:=h y (List.mem_cons_self ..);refine ⟨d+d',fun x hx=>?_⟩
   rcases List.mem_cons.1 hx with rfl | hx
   ·exact hd'.le aE
   ·exact (hd x hx).le aE
abbrev aNg (d:Nat):List lL:=[ent 118 gP,ent 174 (CV d),ent 88 (vJ d),ent 175 RK]
set_option maxHeartbeats 2000000 in
theorem RL {d:Nat} {ns fs mm cs ki pa:AV} {xp xc:List AV} {op n:Int} {kk:AV} (hsc:cs.els=xc) (hcs:qW cs) (hsp:Sl pa xp) (hpx:∀ x∈xp,TPatN d x) (lc:Code) (hlc:AG ((Tryz.f120).body.getD .skip)=some lc) {Q:Ex->Env->Prop}
 (c:Bool) (t:Tr AV) (k low:Nat) (o:Tr AObj) (t2:t.val 2=.ptr 0 0 0) (t3:t.val 3=.ptr 1 0 0) (t5:t.val 5=kk) (t6:t.val 6=.bool c) (t7:t.val 7=.int .i64 0) (g0:o.get 0=some (aY 0 [ns,fs,mm,cs])) (g1:o.get 1=some (aY 0 [.int .i64 op,.int .i64 n,ki,pa])) (hk:2<=k)
 (hQ:∀ t k low o,t.val 2=.ptr 0 0 0->t.val 3=.ptr 1 0 0->t.val 5=kk->t.val 6=.bool (c&&xp.all (lR xc))->o.get 1=some (aY 0 [.int .i64 op,.int .i64 n,ki,pa])->2<=k->Q (.exit 1) ⟨112,none,120,t,[],⟨k,low,o⟩,.no⟩):Wk Tryz.prog (bK (aNg d)) (fun r=>(bif Nat.beq r 22 then [5,15] else bif Nat.beq r 23 then [11] else [],[])) lc ⟨112,none,120,t,[],⟨k,low,o⟩,.no⟩ Q:=by
 cases hlc;have hl:=hsp.2;have hq0:(c&&xp.all (lR xc))=(c&&(xp.drop 0).all (lR xc)):=rfl;generalize (c&&xp.all (lR xc))=W at *
 refine aQ (fun i e=>∃ t k low o m,e=⟨112,none,120,t,[],⟨k,low,o⟩,.no⟩/\t.val 2=.ptr 0 0 0/\t.val 3=.ptr 1 0 0/\t.val 5=kk/\t.val 6=.bool m/\t.val 7=.int .i64 (i:Nat)/\o.get 0=some (aY 0 [ns,fs,mm,cs])/\o.get 1=some (aY 0 [.int .i64 op,.int .i64 n,ki,pa])/\2<=k/\i<=xp.length/\W=(m&&(xp.drop i).all (lR xc))) (fun i=>xp.length-i) 0
  ⟨t,k,low,o,c,rfl,t2,t3,t5,t6,t7,g0,g1,hk,Nat.zero_le _,hq0⟩ ?_
 clear t2 t3 t5 t6 t7 g0 g1 hk hq0;rintro i _ ⟨t,k,low,o,m,rfl,t2,t3,t5,t6,t7,g0,g1,hk,hi,hq⟩;have f0:=bT (show 0<k by omega);have f1:=bT (show 1<k by omega)
 rcases Nat.lt_or_ge i xp.length with hlt | hge
 ·obtain ⟨x,hDx,hm,hg,hd,hix,hw,hc⟩:=aZ (fun x h=>(cI d).len h) hpx hsp.2 hlt
  have hpf:=fun {d':Option AV}=>(cI d).pf hDx (d:=d')
  rw [hd,List.all_cons,VN hDx]at hq
  cases m with
  | false=>
    rw [Bool.false_and]at hq;refine ap7 @t3 @t6 @t7 @g1 @f1 hsp.lX @hc ?_;exact hQ _ _ _ _ (aP @t2) (aP @t3) (aP @t5) (by rw [hq];exact aP @t6) g1 hk
  | true=>
    have he:CV d [x,cs]=some (.bool (jC xc d x)):=by rw [CV,sg2_eq ⟨hDx,hcs⟩,hsc]
    have he2:vJ d [x,.int .i64 12]=some (.int .i64 (wN d x 12)):=sg2_eq ⟨hDx,_,rfl,aE,aE⟩;have hwn:=VI d x 12 hDx aE;rw [Bool.true_and]at hq;by_cases k1:oU d x<=12
    ·have k2:(wN d x 12 ≥ 0)=True:=eq_true (by rw [hwn];split<;>omega)
     have k2':((0:Int)<=wN d x 12)=True:=k2;rw [decide_eq_true k1,Bool.true_and]at hq;refine DN @t2 @t3 @t6 @t7 @g0 @g1 @f0 @f1 hsp.lX hsp.iX @hix @hc @hpf @he @he2 @k2 @hw ?_;exact ⟨i+1,by show _-_<_-_;omega,_,_,_,_,_,rfl,aP @t2,aP @t3,aP @t5,aG,aG,by simp +decide only [g0],by simp +decide only [g1],hk,hlt,hq⟩
    ·have k2:(wN d x 12 ≥ 0)=False:=eq_false (by rw [hwn];split<;>omega)
     have k2':((0:Int)<=wN d x 12)=False:=k2;rw [decide_eq_false k1,Bool.false_and]at hq;refine FK @t3 @t6 @t7 @g1 @f1 hsp.lX hsp.iX @hix @hc @hpf @he2 @k2 @hw ?_;exact ⟨i+1,by show _-_<_-_;omega,_,_,_,_,_,rfl,aP @t2,aP @t3,aP @t5,aG,aG,by simp +decide only [g0],by simp +decide only [g1],hk,hlt,hq⟩
 ·obtain rfl:i=xp.length:=Nat.le_antisymm hi hge
  rw [List.drop_length,List.all_nil,Bool.and_true]at hq;refine ap6 @t3 @t7 @g1 @f1 hsp.lX @aW ?_;exact hQ _ _ _ _ (aP @t2) (aP @t3) (aP @t5) (by rw [hq];exact aP @t6) g1 hk
set_option maxHeartbeats 16000000 in
theorem aDm {ns fs mm cs:AV} (h:PG ns fs mm cs) (x:AV) (hx:eK x):Abs.Returns Tryz.prog 120 [pg ns fs mm cs,x] (.bool (rW fs.els.length cs.els x)):=by
 have hux:=(tk_node x hx).1;obtain ⟨_,_,ki,pa,rfl,⟨op,rfl⟩,⟨n,rfl⟩,hk,hp⟩:=hx;have ck:=(aL _ hk).2;have cp:=(fG _ hp).2;obtain ⟨c1,c2,c3,c4⟩:=h.cells;obtain ⟨xp,hsp,hpx0⟩:=hp;obtain ⟨xf,hf0,hfx⟩:=h.fs;obtain ⟨xk,hsk,hkx⟩:=hk;obtain ⟨d,hpx⟩:=aUx hpx0;have hcs0:=h.cs;obtain ⟨xc,hsc,hcx⟩:=h.cs;have w1:=cB hsc.2;have hl:=hsp.2;have hfl:=hf0.2
 have wn:IntKind.i64.wrap (0-((xf.length:Nat):Int))=-((xf.length:Nat):Int):=by rw [IntWalk.i64_in _ aE];omega
 refine aF (L:=aNg d) (elist_cons rIn5_ok.ent (elist_cons (VJ d).ent (elist_cons (CU d).ent (elist_cons rkids_ok.ent aD)))) (fun r=>(bif Nat.beq r 22 then [5,15] else bif Nat.beq r 23 then [11] else [],[])) (by kernel_rfl) Tryz.func120 Tryz.ntmps120 Tryz.results120 rfl rfl (aA h.und.und (aA hux.und aC)) aJ ?_
 have hpat:rW fs.els.length cs.els (.agg [.int .i64 op,.int .i64 n,ki,pa])=((AF xf.length xc op n&&if op=15 then inR (xp.length:Nat) 1 5 else decide (((xp.length:Nat):Int)=0))&&(xp.all (lR xc)&&decide (((xk.length:Nat):Int)=iF (xp.length:Nat) (if op=14 then ((xc.getD n.toNat .top).fld 1).num else 0) (bO op)))):=by
  rw [<-hsp.els,<-hsc.els,<-hf0.els,<-hsk.els];rfl
 rw [hpat];clear hpat
 have hkids:∀ k:Int,RK [.int .i64 op,.int .i64 (xp.length:Nat),.int .i64 k]=some (.int .i64 (iF (xp.length:Nat) k (bO op))):=fun k=>gR ⟨⟨_,rfl⟩,⟨_,rfl⟩,⟨_,rfl⟩⟩
 have lp:=fun {kk:AV} {Q:Ex->Env->Prop}=>RL (ns:=ns) (fs:=fs) (mm:=mm) (ki:=ki) (op:=op) (n:=n) (kk:=kk) hsc.els hcs0 hsp hpx _ rfl (Q:=Q)
 have hK:∃ K,K=iF (xp.length:Nat) (if op=14 then ((xc.getD n.toNat .top).fld 1).num else 0) (bO op):=⟨_,rfl⟩
 obtain ⟨K,hK⟩:=hK;rw [<-hK]
 have hF:∃ F,F=(AF xf.length xc op n&&if op=15 then inR (xp.length:Nat) 1 5 else decide (((xp.length:Nat):Int)=0)):=⟨_,rfl⟩
 obtain ⟨F,hF⟩:=hF;rw [<-hF];unfold AF oZ at hF
 rcases (by omega:op=1∨op=2∨op=4∨op=24∨op=14∨op=15∨(op≠1/\op≠2/\op≠4/\op≠24/\op≠14/\op≠15)) with rfl | rfl | rfl | rfl | rfl | rfl | ⟨p1,p2,p4,p24,p14,p15⟩
 ·have hK':(if (1:Int)=14 then ((xc.getD n.toNat .top).fld 1).num else 0)=0:=by simp
  cases g:inR n (-1000000000) 1000000000 with
  | false=>
    rw [show F=false by rw [hF];simp [g]];simp +contextual +decide (maxSteps:=1000000) only [↓ wP,wQ,tf,Nat.reduceAdd,wS,c1,c2,c3,c4,ck,cp,aI,g]
    refine lp (kk:=.int .i64 0) false _ _ _ _ (aG) (aG) (aG) (aG) (aG) (lS) (aG) aE fun t k low o t2 t3 t5 t6 g1 hk=>?_
    have f1:=bT (show 1<k by omega);exact tN @t6
  | true=>
    by_cases g1:((xp.length:Nat):Int)=0
    ·rw [show F=true by rw [hF];rw [decide_eq_true g1];simp [g]]
     simp +contextual +decide (maxSteps:=1000000) only [↓ wP,wQ,tf,Nat.reduceAdd,wS,c1,c2,c3,c4,ck,cp,hsp.len,aI,g,g1]
     refine lp (kk:=.int .i64 0) true _ _ _ _ (aG) (aG) (aG) (aG) (aG) (lS) (aG) aE fun t k low o t2 t3 t5 t6 g1 hk=>?_
     have f1:=bT (show 1<k by omega);rw [Bool.true_and]at t6
     cases hb:xp.all (lR xc) with
     | false=>exact az2 @t6 @hb
     | true=>
       have he:=hkids 0;rw [hK']at hK;simp +contextual +decide (maxSteps:=1000000) only [↓ wP,wQ,tf,Nat.reduceAdd,wS,t3,t5,t6,g1,f1,hb,hsp.len,hsk.len,hsp.stab,hsk.stab,he,<-hK]
    ·rw [show F=false by rw [hF];rw [decide_eq_false g1];simp]
     simp +contextual +decide (maxSteps:=1000000) only [↓ wP,wQ,tf,Nat.reduceAdd,wS,c1,c2,c3,c4,ck,cp,hsp.len,aI,g,g1]
     refine lp (kk:=.int .i64 0) false _ _ _ _ (aG) (aG) (aG) (aG) (aG) (lS) (aG) aE fun t k low o t2 t3 t5 t6 g1 hk=>?_
     have f1:=bT (show 1<k by omega);exact tN @t6
 ·have hK':(if (2:Int)=14 then ((xc.getD n.toNat .top).fld 1).num else 0)=0:=by simp
  cases g:inR n 0 1 with
  | false=>
    rw [show F=false by rw [hF];simp [g]];simp +contextual +decide (maxSteps:=1000000) only [↓ wP,wQ,tf,Nat.reduceAdd,wS,c1,c2,c3,c4,ck,cp,aI,g]
    refine lp (kk:=.int .i64 0) false _ _ _ _ (aG) (aG) (aG) (aG) (aG) (lS) (aG) aE fun t k low o t2 t3 t5 t6 g1 hk=>?_
    have f1:=bT (show 1<k by omega);exact tN @t6
  | true=>
    by_cases g1:((xp.length:Nat):Int)=0
    ·rw [show F=true by rw [hF];rw [decide_eq_true g1];simp [g]]
     simp +contextual +decide (maxSteps:=1000000) only [↓ wP,wQ,tf,Nat.reduceAdd,wS,c1,c2,c3,c4,ck,cp,hsp.len,aI,g,g1]
     refine lp (kk:=.int .i64 0) true _ _ _ _ (aG) (aG) (aG) (aG) (aG) (lS) (aG) aE fun t k low o t2 t3 t5 t6 g1 hk=>?_
     have f1:=bT (show 1<k by omega);rw [Bool.true_and]at t6
     cases hb:xp.all (lR xc) with
     | false=>exact az2 @t6 @hb
     | true=>
       have he:=hkids 0;rw [hK']at hK;simp +contextual +decide (maxSteps:=1000000) only [↓ wP,wQ,tf,Nat.reduceAdd,wS,t3,t5,t6,g1,f1,hb,hsp.len,hsk.len,hsp.stab,hsk.stab,he,<-hK]
    ·rw [show F=false by rw [hF];rw [decide_eq_false g1];simp]
     simp +contextual +decide (maxSteps:=1000000) only [↓ wP,wQ,tf,Nat.reduceAdd,wS,c1,c2,c3,c4,ck,cp,hsp.len,aI,g,g1]
     refine lp (kk:=.int .i64 0) false _ _ _ _ (aG) (aG) (aG) (aG) (aG) (lS) (aG) aE fun t k low o t2 t3 t5 t6 g1 hk=>?_
     have f1:=bT (show 1<k by omega);exact tN @t6
 ·have hK':(if (4:Int)=14 then ((xc.getD n.toNat .top).fld 1).num else 0)=0:=by simp
  cases g:inR n (-((xf.length:Nat):Int)) 29 with
  | false=>
    rw [show F=false by rw [hF];simp [g]];simp +contextual +decide (maxSteps:=1000000) only [↓ wP,wQ,tf,Nat.reduceAdd,wS,c1,c2,c3,c4,ck,cp,hf0.len,wn,aI,g]
    refine lp (kk:=.int .i64 0) false _ _ _ _ (aG) (aG) (aG) (aG) (aG) (lS) (aG) aE fun t k low o t2 t3 t5 t6 g1 hk=>?_
    have f1:=bT (show 1<k by omega);exact tN @t6
  | true=>
    by_cases g1:((xp.length:Nat):Int)=0
    ·rw [show F=true by rw [hF];rw [decide_eq_true g1];simp [g]]
     simp +contextual +decide (maxSteps:=1000000) only [↓ wP,wQ,tf,Nat.reduceAdd,wS,c1,c2,c3,c4,ck,cp,hf0.len,hsp.len,wn,aI,g,g1]
     refine lp (kk:=.int .i64 0) true _ _ _ _ (aG) (aG) (aG) (aG) (aG) (lS) (aG) aE fun t k low o t2 t3 t5 t6 g1 hk=>?_
     have f1:=bT (show 1<k by omega);rw [Bool.true_and]at t6
     cases hb:xp.all (lR xc) with
     | false=>exact az2 @t6 @hb
     | true=>
       have he:=hkids 0;rw [hK']at hK;simp +contextual +decide (maxSteps:=1000000) only [↓ wP,wQ,tf,Nat.reduceAdd,wS,t3,t5,t6,g1,f1,hb,hsp.len,hsk.len,hsp.stab,hsk.stab,he,<-hK]
    ·rw [show F=false by rw [hF];rw [decide_eq_false g1];simp]
     simp +contextual +decide (maxSteps:=1000000) only [↓ wP,wQ,tf,Nat.reduceAdd,wS,c1,c2,c3,c4,ck,cp,hf0.len,hsp.len,wn,aI,g,g1]
     refine lp (kk:=.int .i64 0) false _ _ _ _ (aG) (aG) (aG) (aG) (aG) (lS) (aG) aE fun t k low o t2 t3 t5 t6 g1 hk=>?_
     have f1:=bT (show 1<k by omega);exact tN @t6
 ·have hK':(if (24:Int)=14 then ((xc.getD n.toNat .top).fld 1).num else 0)=0:=by simp
  cases g:inR n 0 3 with
  | false=>
    rw [show F=false by rw [hF];simp [g]];simp +contextual +decide (maxSteps:=1000000) only [↓ wP,wQ,tf,Nat.reduceAdd,wS,c1,c2,c3,c4,ck,cp,aI,g]
    refine lp (kk:=.int .i64 0) false _ _ _ _ (aG) (aG) (aG) (aG) (aG) (lS) (aG) aE fun t k low o t2 t3 t5 t6 g1 hk=>?_
    have f1:=bT (show 1<k by omega);exact tN @t6
  | true=>
    by_cases g1:((xp.length:Nat):Int)=0
    ·rw [show F=true by rw [hF];rw [decide_eq_true g1];simp [g]]
     simp +contextual +decide (maxSteps:=1000000) only [↓ wP,wQ,tf,Nat.reduceAdd,wS,c1,c2,c3,c4,ck,cp,hsp.len,aI,g,g1]
     refine lp (kk:=.int .i64 0) true _ _ _ _ (aG) (aG) (aG) (aG) (aG) (lS) (aG) aE fun t k low o t2 t3 t5 t6 g1 hk=>?_
     have f1:=bT (show 1<k by omega);rw [Bool.true_and]at t6
     cases hb:xp.all (lR xc) with
     | false=>exact az2 @t6 @hb
     | true=>
       have he:=hkids 0;rw [hK']at hK;simp +contextual +decide (maxSteps:=1000000) only [↓ wP,wQ,tf,Nat.reduceAdd,wS,t3,t5,t6,g1,f1,hb,hsp.len,hsk.len,hsp.stab,hsk.stab,he,<-hK]
    ·rw [show F=false by rw [hF];rw [decide_eq_false g1];simp]
     simp +contextual +decide (maxSteps:=1000000) only [↓ wP,wQ,tf,Nat.reduceAdd,wS,c1,c2,c3,c4,ck,cp,hsp.len,aI,g,g1]
     refine lp (kk:=.int .i64 0) false _ _ _ _ (aG) (aG) (aG) (aG) (aG) (lS) (aG) aE fun t k low o t2 t3 t5 t6 g1 hk=>?_
     have f1:=bT (show 1<k by omega);exact tN @t6
 ·have hK':(if (14:Int)=14 then ((xc.getD n.toNat .top).fld 1).num else 0)=((xc.getD n.toNat .top).fld 1).num:=by simp
  cases g:inR n 0 ((xc.length:Nat)-1) with
  | false=>
    rw [show F=false by rw [hF];simp [g]];simp +contextual +decide (maxSteps:=1000000) only [↓ wP,wQ,tf,Nat.reduceAdd,wS,c1,c2,c3,c4,ck,cp,hsc.len,w1,aI,g]
    refine lp (kk:=.int .i64 0) false _ _ _ _ (aG) (aG) (aG) (aG) (aG) (lS) (aG) aE fun t k low o t2 t3 t5 t6 g1 hk=>?_
    have f1:=bT (show 1<k by omega);exact tN @t6
  | true=>
    obtain ⟨i,rfl,hlt⟩:∃ i:Nat,n=i/\i<xc.length:=by
     simp [inR]at g;exact ⟨n.toNat,aE,aE⟩
    obtain ⟨x,hDx,hm,hg,hd,hix,hw,hc⟩:=aZ (fun x h=>tk_con.len h) hcx hsc.2 hlt;obtain ⟨_,_,rfl,⟨c,rfl,hc'⟩,⟨m,rfl⟩⟩:=hDx
    have hget:xc.getD (i:Int).toNat .top=.agg [.str c,.int .i64 m]:=by simp [hg]
    rw [hget,show ((AV.agg [.str c,.int .i64 m]).fld 1).num=m from rfl]at hK' hK;by_cases g1:((xp.length:Nat):Int)=0
    ·rw [show F=true by rw [hF];rw [decide_eq_true g1];simp [g]]
     simp +contextual +decide (maxSteps:=1000000) only [↓ wP,wQ,tf,Nat.reduceAdd,wS,c1,c2,c3,c4,ck,cp,hsc.len,hsp.len,w1,aI,g,g1,hsc.idx,hix]
     refine lp (kk:=.int .i64 m) true _ _ _ _ (aG) (aG) (aG) (aG) (aG) (lS) (aG) aE fun t k low o t2 t3 t5 t6 g1 hk=>?_
     have f1:=bT (show 1<k by omega);rw [Bool.true_and]at t6
     cases hb:xp.all (lR xc) with
     | false=>exact az2 @t6 @hb
     | true=>
       have he:=hkids m;rw [hK']at hK;simp +contextual +decide (maxSteps:=1000000) only [↓ wP,wQ,tf,Nat.reduceAdd,wS,t3,t5,t6,g1,f1,hb,hsp.len,hsk.len,hsp.stab,hsk.stab,he,<-hK]
    ·rw [show F=false by rw [hF];rw [decide_eq_false g1];simp]
     simp +contextual +decide (maxSteps:=1000000) only [↓ wP,wQ,tf,Nat.reduceAdd,wS,c1,c2,c3,c4,ck,cp,hsc.len,hsp.len,w1,aI,g,g1,hsc.idx,hix]
     refine lp (kk:=.int .i64 m) false _ _ _ _ (aG) (aG) (aG) (aG) (aG) (lS) (aG) aE fun t k low o t2 t3 t5 t6 g1 hk=>?_
     have f1:=bT (show 1<k by omega);exact tN @t6
 ·have hK':(if (15:Int)=14 then ((xc.getD n.toNat .top).fld 1).num else 0)=0:=by simp
  by_cases g:n=0
  ·subst g
   have g:(0:Int)=0:=rfl
   cases g1:inR (xp.length:Nat) 1 5 with
   | false=>
     rw [show F=false by rw [hF];simp [g1]];refine ap9 @c1 @c2 @c3 @c4 @ck @cp hsp.lX @aI @g1 ?_
     refine lp (kk:=.int .i64 0) false _ _ _ _ (aG) (aG) (aG) (aG) (aG) (lS) (aG) aE fun t k low o t2 t3 t5 t6 g1 hk=>?_
     have f1:=bT (show 1<k by omega);exact tN @t6
   | true=>
     rw [show F=true by rw [hF];simp [g1]];refine ap9 @c1 @c2 @c3 @c4 @ck @cp hsp.lX @aI @g1 ?_
     refine lp (kk:=.int .i64 0) true _ _ _ _ (aG) (aG) (aG) (aG) (aG) (lS) (aG) aE fun t k low o t2 t3 t5 t6 g1 hk=>?_
     have f1:=bT (show 1<k by omega);rw [Bool.true_and]at t6
     cases hb:xp.all (lR xc) with
     | false=>exact az2 @t6 @hb
     | true=>
       have he:=hkids 0;rw [hK']at hK;simp +contextual +decide (maxSteps:=1000000) only [↓ wP,wQ,tf,Nat.reduceAdd,wS,t3,t5,t6,g1,f1,hb,hsp.len,hsk.len,hsp.stab,hsk.stab,he,<-hK]
  ·rw [show F=false by rw [hF];simp [g]]
   simp +contextual +decide (maxSteps:=1000000) only [↓ wP,wQ,tf,Nat.reduceAdd,wS,c1,c2,c3,c4,ck,cp,g]
   refine lp (kk:=.int .i64 0) false _ _ _ _ (aG) (aG) (aG) (aG) (aG) (lS) (aG) aE fun t k low o t2 t3 t5 t6 g1 hk=>?_
   have f1:=bT (show 1<k by omega);exact tN @t6
 ·have hK':(if op=14 then ((xc.getD n.toNat .top).fld 1).num else 0)=0:=by simp [p14]
  by_cases g:n=0
  ·subst g
   have g:(0:Int)=0:=rfl;by_cases g1:((xp.length:Nat):Int)=0
   ·rw [show F=true by rw [hF];rw [decide_eq_true g1];simp [p1,p2,p4,p24,p14,p15]]
    refine NC @c1 @c2 @c3 @c4 @ck @cp hsp.lX @g1 @p1 @p2 @p4 @p24 @p14 @p15 ?_
    refine lp (kk:=.int .i64 0) true _ _ _ _ (aG) (aG) (aG) (aG) (aG) (lS) (aG) aE fun t k low o t2 t3 t5 t6 g1 hk=>?_
    have f1:=bT (show 1<k by omega);rw [Bool.true_and]at t6
    cases hb:xp.all (lR xc) with
    | false=>exact az2 @t6 @hb
    | true=>
      have he:=hkids 0;rw [hK']at hK;simp +contextual +decide (maxSteps:=1000000) only [↓ wP,wQ,tf,Nat.reduceAdd,wS,t3,t5,t6,g1,f1,hb,hsp.len,hsk.len,hsp.stab,hsk.stab,he,<-hK]
   ·rw [show F=false by rw [hF];rw [decide_eq_false g1];simp [p15]]
    refine NC @c1 @c2 @c3 @c4 @ck @cp hsp.lX @g1 @p1 @p2 @p4 @p24 @p14 @p15 ?_
    refine lp (kk:=.int .i64 0) false _ _ _ _ (aG) (aG) (aG) (aG) (aG) (lS) (aG) aE fun t k low o t2 t3 t5 t6 g1 hk=>?_
    have f1:=bT (show 1<k by omega);exact tN @t6
  ·rw [show F=false by rw [hF];simp [g,p1,p2,p4,p24,p14,p15]]
   simp +contextual +decide (maxSteps:=1000000) only [↓ wP,wQ,tf,Nat.reduceAdd,wS,c1,c2,c3,c4,ck,cp,g,p1,p2,p4,p24,p14,p15]
   refine lp (kk:=.int .i64 0) false _ _ _ _ (aG) (aG) (aG) (aG) (aG) (lS) (aG) aE fun t k low o t2 t3 t5 t6 g1 hk=>?_
   have f1:=bT (show 1<k by omega);exact tN @t6
end
end Go.Proofs.YtifmdaalhclhgaaGreat
