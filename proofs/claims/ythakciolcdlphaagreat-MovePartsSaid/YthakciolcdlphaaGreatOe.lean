/-
  The reference of programs: how many Kids, and nodes.
-/
import Derived.Test.YthakciolcdlphaaGreatOc
set_option linter.unusedVariables false
set_option linter.unusedSimpArgs false
namespace Go.Proofs.YthakciolcdlphaaGreat
open Go.Abs Go Go.Abs.TryzF
noncomputable section
set_option maxRecDepth 10000
def gI (m k:Int):KidsK->Int
 | .fixed j=>j
 | .con=>k
 | .mat=>IntKind.i64.wrap (1+m)
 | .none=>-1
abbrev MT:List AV->Option AV:=sg3 (fun a b c=>cI a/\cI b/\cI c) fun a b c=>.int .i64 (gI b.num c.num (bI a.num))
set_option maxHeartbeats 8000000 in
theorem rkids_ok:Abs.Ok Tryz.prog 121 MT:=ok3 fun a b c ⟨ha,⟨m,hb⟩,hc⟩=>by
 obtain ⟨op,rfl⟩:=ha
 obtain ⟨k,rfl⟩:=hc
 subst hb
 refine aH (L:=[]) aG aN (by kernel_rfl) Tryz.func121 Tryz.ntmps121 Tryz.results121 rfl rfl (aC aT (aC aT (aC aT aF))) aT ?_
 show Wk _ _ _ _ _ (gQ _ _ (fun _ r=>r=.int .i64 (gI m k (bI op))) _)
 rcases AK op with rfl | rfl | rfl | rfl | rfl | rfl | rfl | rfl | rfl | rfl | rfl | rfl | rfl | rfl | rfl | rfl | rfl | rfl | rfl | rfl | rfl | rfl | rfl | rfl | rfl | rfl | rfl | rfl | h
 case inr.inr.inr.inr.inr.inr.inr.inr.inr.inr.inr.inr.inr.inr.inr.inr.inr.inr.inr.inr.inr.inr.inr.inr.inr.inr.inr.inr=>
  simp +contextual +decide (maxSteps:=1000000) only [↓ wP,wQ,tf,Nat.reduceAdd,wS,reduceCtorEq,h]
  simp [bI,h,gI]
 all_goals simp +contextual +decide (maxSteps:=1000000) only [↓ wP,wQ,tf,Nat.reduceAdd,wS,reduceCtorEq];rfl
def xT (nf:Int) (cs:List AV) (op n:Int):Bool:=
 if op=1 then nZ n else if op=2 then inR n 0 1 else if op=4 then inR n (-nf) 29 else if op=24 then inR n 0 3 else if op=14 then inR n 0 ((cs.length:Int)-1) else decide (n=0)
def qP (nf:Int) (cs:List AV) (x:AV):Bool:=
 let op:=(x.fld 0).num;let n:=(x.fld 1).num;let kl:Int:=(x.fld 2).els.length;let pl:Int:=(x.fld 3).els.length
 (xT nf cs op n&&if op=15 then inR pl 1 5 else decide (pl=0))&&((x.fld 3).els.all (kU cs)&&decide (kl=gI pl (if op=14 then ((cs.getD n.toNat .top).fld 1).num else 0) (bI op)))
theorem aOw {xp:List AV} (h:∀ x∈xp,tT x):∃ d,∀ x∈xp,TPatN d x:=by
 induction xp with
 | nil=>exact ⟨0,fun x hx=>nomatch hx⟩
 | cons y l ih=>
   obtain ⟨d,hd⟩:=ih fun x hx=>h x (List.mem_cons_of_mem _ hx)
   obtain ⟨d',hd'⟩:=h y (List.mem_cons_self ..)
   refine ⟨d+d',fun x hx=>?_⟩
   rcases List.mem_cons.1 hx with rfl | hx
   ·exact hd'.le (by omega)
   ·exact (hd x hx).le (by omega)
abbrev aHu (d:Nat):List kL:=[ent 65 eZ,ent 120 (AE d),ent 76 (tO d),ent 121 MT]
set_option maxHeartbeats 2000000 in
theorem MU {d:Nat} {ns fs mm cs ki pa:AV} {xp xc:List AV} {op n:Int} {kk:AV} (hsc:cs.els=xc) (hcs:qB cs) (hsp:Sl pa xp) (hpx:∀ x∈xp,TPatN d x) (lc:Code) (hlc:xU ((Tryz.f67).body.getD .skip)=some lc) {Q:Ex->Env->Prop}
 (c:Bool) (t:Tr AV) (k low:Nat) (o:Tr AObj) (t2:t.val 2=.ptr 0 0 0) (t3:t.val 3=.ptr 1 0 0) (t5:t.val 5=kk) (t6:t.val 6=.bool c) (t7:t.val 7=.int .i64 0) (g0:o.get 0=some (aU 0 [ns,fs,mm,cs])) (g1:o.get 1=some (aU 0 [.int .i64 op,.int .i64 n,ki,pa])) (hk:2<=k)
 (hQ:∀ t k low o,t.val 2=.ptr 0 0 0->t.val 3=.ptr 1 0 0->t.val 5=kk->t.val 6=.bool (c&&xp.all (kU xc))->o.get 1=some (aU 0 [.int .i64 op,.int .i64 n,ki,pa])->2<=k->Q (.exit 1) ⟨112,none,67,t,[],⟨k,low,o⟩,.no⟩):Wk Tryz.prog (orcL (aHu d)) (fun r=>(bif Nat.beq r 22 then [5,15] else bif Nat.beq r 23 then [11] else [],[])) lc ⟨112,none,67,t,[],⟨k,low,o⟩,.no⟩ Q:=by
 cases hlc
 have hl:=hsp.2
 have hq0:(c&&xp.all (kU xc))=(c&&(xp.drop 0).all (kU xc)):=rfl
 generalize (c&&xp.all (kU xc))=W at *
 refine aQ (fun i e=>∃ t k low o m,e=⟨112,none,67,t,[],⟨k,low,o⟩,.no⟩/\t.val 2=.ptr 0 0 0/\t.val 3=.ptr 1 0 0/\t.val 5=kk/\t.val 6=.bool m/\t.val 7=.int .i64 (i:Nat)/\o.get 0=some (aU 0 [ns,fs,mm,cs])/\o.get 1=some (aU 0 [.int .i64 op,.int .i64 n,ki,pa])/\2<=k/\i<=xp.length/\W=(m&&(xp.drop i).all (kU xc))) (fun i=>xp.length-i) 0
  ⟨t,k,low,o,c,rfl,t2,t3,t5,t6,t7,g0,g1,hk,Nat.zero_le _,hq0⟩ ?_
 clear t2 t3 t5 t6 t7 g0 g1 hk hq0
 rintro i _ ⟨t,k,low,o,m,rfl,t2,t3,t5,t6,t7,g0,g1,hk,hi,hq⟩
 have f0:=eY (show 0<k by omega)
 have f1:=eY (show 1<k by omega)
 rcases Nat.lt_or_ge i xp.length with hlt | hge
 ·obtain ⟨x,hDx,hm,hg,hd,hix,hw,hc⟩:=bK (fun x h=>(bZ d).len h) hpx hsp.2 hlt
  have hpf:=fun {d':Option AV}=>(bZ d).pf hDx (d:=d')
  rw [hd,List.all_cons,QN hDx]at hq
  cases m with
  | false=>
    rw [Bool.false_and]at hq
    simp +contextual +decide (maxSteps:=1000000) only [↓ wP,wQ,tf,Nat.reduceAdd,wS,reduceCtorEq,t2,t3,t5,t6,t7,g0,g1,f0,f1,hsp.len,hc]
    exact hQ _ _ _ _ (by simp +decide only [↓ aA,aE,aB,t2]) (by simp +decide only [↓ aA,aE,aB,t3]) (by simp +decide only [↓ aA,aE,aB,t5]) (by rw [hq];exact by simp +decide only [↓ aA,aE,aB,t6]) g1 hk
  | true=>
    have he:AE d [x,cs]=some (.bool (iE xc d x)):=by rw [AE,sg2_eq ⟨hDx,hcs⟩,hsc]
    have he2:tO d [x,.int .i64 12]=some (.int .i64 (wN d x 12)):=sg2_eq ⟨hDx,_,rfl,by omega,by omega⟩
    have hwn:=QJ d x 12 hDx (by omega)
    rw [Bool.true_and]at hq
    by_cases k1:nT d x<=12
    ·have k2:(wN d x 12 ≥ 0)=True:=eq_true (by rw [hwn];split<;>omega)
     have k2':((0:Int)<=wN d x 12)=True:=k2
     rw [decide_eq_true k1,Bool.true_and]at hq
     simp +contextual +decide (maxSteps:=1000000) only [↓ wP,wQ,tf,Nat.reduceAdd,wS,reduceCtorEq,t2,t3,t5,t6,t7,g0,g1,f0,f1,hsp.len,hsp.idx,hix,hc,hpf,he,he2,k2,k2',hw]
     exact ⟨i+1,by show _-_<_-_;omega,_,_,_,_,_,rfl,by simp +decide only [↓ aA,aE,aB,t2],by simp +decide only [↓ aA,aE,aB,t3],by simp +decide only [↓ aA,aE,aB,t5],by simp +decide only [↓ aA,aE,aB],by simp +decide only [↓ aA,aE,aB],by simp +decide only [↓ aA,aL,aB,ne_eq,g0,f0,f1],by simp +decide only [↓ aA,aL,aB,ne_eq,g1,f0,f1],hk,hlt,hq⟩
    ·have k2:(wN d x 12 ≥ 0)=False:=eq_false (by rw [hwn];split<;>omega)
     have k2':((0:Int)<=wN d x 12)=False:=k2
     rw [decide_eq_false k1,Bool.false_and]at hq
     simp +contextual +decide (maxSteps:=1000000) only [↓ wP,wQ,tf,Nat.reduceAdd,wS,reduceCtorEq,t2,t3,t5,t6,t7,g0,g1,f0,f1,hsp.len,hsp.idx,hix,hc,hpf,he,he2,k2,k2',hw]
     exact ⟨i+1,by show _-_<_-_;omega,_,_,_,_,_,rfl,by simp +decide only [↓ aA,aE,aB,t2],by simp +decide only [↓ aA,aE,aB,t3],by simp +decide only [↓ aA,aE,aB,t5],by simp +decide only [↓ aA,aE,aB],by simp +decide only [↓ aA,aE,aB],by simp +decide only [↓ aA,aL,aB,ne_eq,g0,f0,f1],by simp +decide only [↓ aA,aL,aB,ne_eq,g1,f0,f1],hk,hlt,hq⟩
 ·obtain rfl:i=xp.length:=Nat.le_antisymm hi hge
  rw [List.drop_length,List.all_nil,Bool.and_true]at hq
  simp +contextual +decide (maxSteps:=1000000) only [↓ wP,wQ,tf,Nat.reduceAdd,wS,reduceCtorEq,t2,t3,t5,t6,t7,g0,g1,f0,f1,hsp.len,bG]
  exact hQ _ _ _ _ (by simp +decide only [↓ aA,aE,aB,t2]) (by simp +decide only [↓ aA,aE,aB,t3]) (by simp +decide only [↓ aA,aE,aB,t5]) (by rw [hq];exact by simp +decide only [↓ aA,aE,aB,t6]) g1 hk
set_option maxHeartbeats 16000000 in
theorem YG {ns fs mm cs:AV} (h:PG ns fs mm cs) (x:AV) (hx:dP x):Abs.Returns Tryz.prog 67 [pg ns fs mm cs,x] (.bool (qP fs.els.length cs.els x)):=by
 have hux:=(tk_node x hx).1
 obtain ⟨_,_,ki,pa,rfl,⟨op,rfl⟩,⟨n,rfl⟩,hk,hp⟩:=hx
 have ck:=(aR _ hk).2
 have cp:=(eK _ hp).2
 obtain ⟨c1,c2,c3,c4⟩:=h.cells
 obtain ⟨xp,hsp,hpx0⟩:=hp
 obtain ⟨xf,hf0,hfx⟩:=h.fs
 obtain ⟨xk,hsk,hkx⟩:=hk
 obtain ⟨d,hpx⟩:=aOw hpx0
 have hcs0:=h.cs
 obtain ⟨xc,hsc,hcx⟩:=h.cs
 have w1:=bT hsc.2
 have hl:=hsp.2
 have hfl:=hf0.2
 have wn:IntKind.i64.wrap (0-((xf.length:Nat):Int))=-((xf.length:Nat):Int):=by rw [IntWalk.i64_in _ (by omega)];omega
 refine aH (L:=aHu d) (elist_cons rIn5_ok.ent (elist_cons (QK d).ent (elist_cons (AC d).ent (elist_cons rkids_ok.ent aG)))) (fun r=>(bif Nat.beq r 22 then [5,15] else bif Nat.beq r 23 then [11] else [],[])) (by kernel_rfl) Tryz.func67 Tryz.ntmps67 Tryz.results67 rfl rfl (aC h.und.und (aC hux.und aF)) aJ ?_
 have hpat:qP fs.els.length cs.els (.agg [.int .i64 op,.int .i64 n,ki,pa])=((xT xf.length xc op n&&if op=15 then inR (xp.length:Nat) 1 5 else decide (((xp.length:Nat):Int)=0))&&(xp.all (kU xc)&&decide (((xk.length:Nat):Int)=gI (xp.length:Nat) (if op=14 then ((xc.getD n.toNat .top).fld 1).num else 0) (bI op)))):=by
  rw [<-hsp.els,<-hsc.els,<-hf0.els,<-hsk.els];rfl
 rw [hpat]
 clear hpat
 have hkids:∀ k:Int,MT [.int .i64 op,.int .i64 (xp.length:Nat),.int .i64 k]=some (.int .i64 (gI (xp.length:Nat) k (bI op))):=fun k=>oZ ⟨⟨_,rfl⟩,⟨_,rfl⟩,⟨_,rfl⟩⟩
 have lp:=fun {kk:AV} {Q:Ex->Env->Prop}=>MU (ns:=ns) (fs:=fs) (mm:=mm) (ki:=ki) (op:=op) (n:=n) (kk:=kk) hsc.els hcs0 hsp hpx _ rfl (Q:=Q)
 have hK:∃ K,K=gI (xp.length:Nat) (if op=14 then ((xc.getD n.toNat .top).fld 1).num else 0) (bI op):=⟨_,rfl⟩
 obtain ⟨K,hK⟩:=hK
 rw [<-hK]
 have hF:∃ F,F=(xT xf.length xc op n&&if op=15 then inR (xp.length:Nat) 1 5 else decide (((xp.length:Nat):Int)=0)):=⟨_,rfl⟩
 obtain ⟨F,hF⟩:=hF
 rw [<-hF]
 unfold xT nZ at hF
 rcases (by omega:op=1∨op=2∨op=4∨op=24∨op=14∨op=15∨(op≠1/\op≠2/\op≠4/\op≠24/\op≠14/\op≠15)) with rfl | rfl | rfl | rfl | rfl | rfl | ⟨p1,p2,p4,p24,p14,p15⟩
 ·have hK':(if (1:Int)=14 then ((xc.getD n.toNat .top).fld 1).num else 0)=0:=by simp
  cases g:inR n (-1000000000) 1000000000 with
  | false=>
    rw [show F=false by rw [hF];simp [g]]
    simp +contextual +decide (maxSteps:=1000000) only [↓ wP,wQ,tf,Nat.reduceAdd,wS,reduceCtorEq,c1,c2,c3,c4,ck,cp,hf0.len,hsc.len,hsp.len,hsk.len,hsp.stab,wn,w1,aI,g]
    refine lp (kk:=.int .i64 0) false _ _ _ _ (by simp +decide only [↓ aA,aE,aB]) (by simp +decide only [↓ aA,aE,aB]) (by simp +decide only [↓ aA,aE,aB]) (by simp +decide only [↓ aA,aE,aB]) (by simp +decide only [↓ aA,aE,aB]) (by simp +decide only [↓ aA,aL,aB,ne_eq]) (by simp +decide only [↓ aA,aL,aB,ne_eq]) (by omega) fun t k low o t2 t3 t5 t6 g1 hk=>?_
    have f1:=eY (show 1<k by omega)
    simp +contextual +decide (maxSteps:=1000000) only [↓ wP,wQ,tf,Nat.reduceAdd,wS,reduceCtorEq,t2,t3,t5,t6,g1,f1,ck,cp]
  | true=>
    by_cases g1:((xp.length:Nat):Int)=0
    ·rw [show F=true by rw [hF];rw [decide_eq_true g1];simp [g]]
     simp +contextual +decide (maxSteps:=1000000) only [↓ wP,wQ,tf,Nat.reduceAdd,wS,reduceCtorEq,c1,c2,c3,c4,ck,cp,hf0.len,hsc.len,hsp.len,hsk.len,hsp.stab,wn,w1,aI,g,g1]
     refine lp (kk:=.int .i64 0) true _ _ _ _ (by simp +decide only [↓ aA,aE,aB]) (by simp +decide only [↓ aA,aE,aB]) (by simp +decide only [↓ aA,aE,aB]) (by simp +decide only [↓ aA,aE,aB]) (by simp +decide only [↓ aA,aE,aB]) (by simp +decide only [↓ aA,aL,aB,ne_eq]) (by simp +decide only [↓ aA,aL,aB,ne_eq]) (by omega) fun t k low o t2 t3 t5 t6 g1 hk=>?_
     have f1:=eY (show 1<k by omega)
     rw [Bool.true_and]at t6
     cases hb:xp.all (kU xc) with
     | false=>simp +contextual +decide (maxSteps:=1000000) only [↓ wP,wQ,tf,Nat.reduceAdd,wS,reduceCtorEq,t2,t3,t5,t6,g1,f1,hb,ck,cp]
     | true=>
       have he:=hkids 0
       rw [hK']at hK
       simp +contextual +decide (maxSteps:=1000000) only [↓ wP,wQ,tf,Nat.reduceAdd,wS,reduceCtorEq,t2,t3,t5,t6,g1,f1,hb,ck,cp,hsp.len,hsk.len,hsp.stab,hsk.stab,he,<-hK]
    ·rw [show F=false by rw [hF];rw [decide_eq_false g1];simp]
     simp +contextual +decide (maxSteps:=1000000) only [↓ wP,wQ,tf,Nat.reduceAdd,wS,reduceCtorEq,c1,c2,c3,c4,ck,cp,hf0.len,hsc.len,hsp.len,hsk.len,hsp.stab,wn,w1,aI,g,g1]
     refine lp (kk:=.int .i64 0) false _ _ _ _ (by simp +decide only [↓ aA,aE,aB]) (by simp +decide only [↓ aA,aE,aB]) (by simp +decide only [↓ aA,aE,aB]) (by simp +decide only [↓ aA,aE,aB]) (by simp +decide only [↓ aA,aE,aB]) (by simp +decide only [↓ aA,aL,aB,ne_eq]) (by simp +decide only [↓ aA,aL,aB,ne_eq]) (by omega) fun t k low o t2 t3 t5 t6 g1 hk=>?_
     have f1:=eY (show 1<k by omega)
     simp +contextual +decide (maxSteps:=1000000) only [↓ wP,wQ,tf,Nat.reduceAdd,wS,reduceCtorEq,t2,t3,t5,t6,g1,f1,ck,cp]
 ·have hK':(if (2:Int)=14 then ((xc.getD n.toNat .top).fld 1).num else 0)=0:=by simp
  cases g:inR n 0 1 with
  | false=>
    rw [show F=false by rw [hF];simp [g]]
    simp +contextual +decide (maxSteps:=1000000) only [↓ wP,wQ,tf,Nat.reduceAdd,wS,reduceCtorEq,c1,c2,c3,c4,ck,cp,hf0.len,hsc.len,hsp.len,hsk.len,hsp.stab,wn,w1,aI,g]
    refine lp (kk:=.int .i64 0) false _ _ _ _ (by simp +decide only [↓ aA,aE,aB]) (by simp +decide only [↓ aA,aE,aB]) (by simp +decide only [↓ aA,aE,aB]) (by simp +decide only [↓ aA,aE,aB]) (by simp +decide only [↓ aA,aE,aB]) (by simp +decide only [↓ aA,aL,aB,ne_eq]) (by simp +decide only [↓ aA,aL,aB,ne_eq]) (by omega) fun t k low o t2 t3 t5 t6 g1 hk=>?_
    have f1:=eY (show 1<k by omega)
    simp +contextual +decide (maxSteps:=1000000) only [↓ wP,wQ,tf,Nat.reduceAdd,wS,reduceCtorEq,t2,t3,t5,t6,g1,f1,ck,cp]
  | true=>
    by_cases g1:((xp.length:Nat):Int)=0
    ·rw [show F=true by rw [hF];rw [decide_eq_true g1];simp [g]]
     simp +contextual +decide (maxSteps:=1000000) only [↓ wP,wQ,tf,Nat.reduceAdd,wS,reduceCtorEq,c1,c2,c3,c4,ck,cp,hf0.len,hsc.len,hsp.len,hsk.len,hsp.stab,wn,w1,aI,g,g1]
     refine lp (kk:=.int .i64 0) true _ _ _ _ (by simp +decide only [↓ aA,aE,aB]) (by simp +decide only [↓ aA,aE,aB]) (by simp +decide only [↓ aA,aE,aB]) (by simp +decide only [↓ aA,aE,aB]) (by simp +decide only [↓ aA,aE,aB]) (by simp +decide only [↓ aA,aL,aB,ne_eq]) (by simp +decide only [↓ aA,aL,aB,ne_eq]) (by omega) fun t k low o t2 t3 t5 t6 g1 hk=>?_
     have f1:=eY (show 1<k by omega)
     rw [Bool.true_and]at t6
     cases hb:xp.all (kU xc) with
     | false=>simp +contextual +decide (maxSteps:=1000000) only [↓ wP,wQ,tf,Nat.reduceAdd,wS,reduceCtorEq,t2,t3,t5,t6,g1,f1,hb,ck,cp]
     | true=>
       have he:=hkids 0
       rw [hK']at hK
       simp +contextual +decide (maxSteps:=1000000) only [↓ wP,wQ,tf,Nat.reduceAdd,wS,reduceCtorEq,t2,t3,t5,t6,g1,f1,hb,ck,cp,hsp.len,hsk.len,hsp.stab,hsk.stab,he,<-hK]
    ·rw [show F=false by rw [hF];rw [decide_eq_false g1];simp]
     simp +contextual +decide (maxSteps:=1000000) only [↓ wP,wQ,tf,Nat.reduceAdd,wS,reduceCtorEq,c1,c2,c3,c4,ck,cp,hf0.len,hsc.len,hsp.len,hsk.len,hsp.stab,wn,w1,aI,g,g1]
     refine lp (kk:=.int .i64 0) false _ _ _ _ (by simp +decide only [↓ aA,aE,aB]) (by simp +decide only [↓ aA,aE,aB]) (by simp +decide only [↓ aA,aE,aB]) (by simp +decide only [↓ aA,aE,aB]) (by simp +decide only [↓ aA,aE,aB]) (by simp +decide only [↓ aA,aL,aB,ne_eq]) (by simp +decide only [↓ aA,aL,aB,ne_eq]) (by omega) fun t k low o t2 t3 t5 t6 g1 hk=>?_
     have f1:=eY (show 1<k by omega)
     simp +contextual +decide (maxSteps:=1000000) only [↓ wP,wQ,tf,Nat.reduceAdd,wS,reduceCtorEq,t2,t3,t5,t6,g1,f1,ck,cp]
 ·have hK':(if (4:Int)=14 then ((xc.getD n.toNat .top).fld 1).num else 0)=0:=by simp
  cases g:inR n (-((xf.length:Nat):Int)) 29 with
  | false=>
    rw [show F=false by rw [hF];simp [g]]
    simp +contextual +decide (maxSteps:=1000000) only [↓ wP,wQ,tf,Nat.reduceAdd,wS,reduceCtorEq,c1,c2,c3,c4,ck,cp,hf0.len,hsc.len,hsp.len,hsk.len,hsp.stab,wn,w1,aI,g]
    refine lp (kk:=.int .i64 0) false _ _ _ _ (by simp +decide only [↓ aA,aE,aB]) (by simp +decide only [↓ aA,aE,aB]) (by simp +decide only [↓ aA,aE,aB]) (by simp +decide only [↓ aA,aE,aB]) (by simp +decide only [↓ aA,aE,aB]) (by simp +decide only [↓ aA,aL,aB,ne_eq]) (by simp +decide only [↓ aA,aL,aB,ne_eq]) (by omega) fun t k low o t2 t3 t5 t6 g1 hk=>?_
    have f1:=eY (show 1<k by omega)
    simp +contextual +decide (maxSteps:=1000000) only [↓ wP,wQ,tf,Nat.reduceAdd,wS,reduceCtorEq,t2,t3,t5,t6,g1,f1,ck,cp]
  | true=>
    by_cases g1:((xp.length:Nat):Int)=0
    ·rw [show F=true by rw [hF];rw [decide_eq_true g1];simp [g]]
     simp +contextual +decide (maxSteps:=1000000) only [↓ wP,wQ,tf,Nat.reduceAdd,wS,reduceCtorEq,c1,c2,c3,c4,ck,cp,hf0.len,hsc.len,hsp.len,hsk.len,hsp.stab,wn,w1,aI,g,g1]
     refine lp (kk:=.int .i64 0) true _ _ _ _ (by simp +decide only [↓ aA,aE,aB]) (by simp +decide only [↓ aA,aE,aB]) (by simp +decide only [↓ aA,aE,aB]) (by simp +decide only [↓ aA,aE,aB]) (by simp +decide only [↓ aA,aE,aB]) (by simp +decide only [↓ aA,aL,aB,ne_eq]) (by simp +decide only [↓ aA,aL,aB,ne_eq]) (by omega) fun t k low o t2 t3 t5 t6 g1 hk=>?_
     have f1:=eY (show 1<k by omega)
     rw [Bool.true_and]at t6
     cases hb:xp.all (kU xc) with
     | false=>simp +contextual +decide (maxSteps:=1000000) only [↓ wP,wQ,tf,Nat.reduceAdd,wS,reduceCtorEq,t2,t3,t5,t6,g1,f1,hb,ck,cp]
     | true=>
       have he:=hkids 0
       rw [hK']at hK
       simp +contextual +decide (maxSteps:=1000000) only [↓ wP,wQ,tf,Nat.reduceAdd,wS,reduceCtorEq,t2,t3,t5,t6,g1,f1,hb,ck,cp,hsp.len,hsk.len,hsp.stab,hsk.stab,he,<-hK]
    ·rw [show F=false by rw [hF];rw [decide_eq_false g1];simp]
     simp +contextual +decide (maxSteps:=1000000) only [↓ wP,wQ,tf,Nat.reduceAdd,wS,reduceCtorEq,c1,c2,c3,c4,ck,cp,hf0.len,hsc.len,hsp.len,hsk.len,hsp.stab,wn,w1,aI,g,g1]
     refine lp (kk:=.int .i64 0) false _ _ _ _ (by simp +decide only [↓ aA,aE,aB]) (by simp +decide only [↓ aA,aE,aB]) (by simp +decide only [↓ aA,aE,aB]) (by simp +decide only [↓ aA,aE,aB]) (by simp +decide only [↓ aA,aE,aB]) (by simp +decide only [↓ aA,aL,aB,ne_eq]) (by simp +decide only [↓ aA,aL,aB,ne_eq]) (by omega) fun t k low o t2 t3 t5 t6 g1 hk=>?_
     have f1:=eY (show 1<k by omega)
     simp +contextual +decide (maxSteps:=1000000) only [↓ wP,wQ,tf,Nat.reduceAdd,wS,reduceCtorEq,t2,t3,t5,t6,g1,f1,ck,cp]
 ·have hK':(if (24:Int)=14 then ((xc.getD n.toNat .top).fld 1).num else 0)=0:=by simp
  cases g:inR n 0 3 with
  | false=>
    rw [show F=false by rw [hF];simp [g]]
    simp +contextual +decide (maxSteps:=1000000) only [↓ wP,wQ,tf,Nat.reduceAdd,wS,reduceCtorEq,c1,c2,c3,c4,ck,cp,hf0.len,hsc.len,hsp.len,hsk.len,hsp.stab,wn,w1,aI,g]
    refine lp (kk:=.int .i64 0) false _ _ _ _ (by simp +decide only [↓ aA,aE,aB]) (by simp +decide only [↓ aA,aE,aB]) (by simp +decide only [↓ aA,aE,aB]) (by simp +decide only [↓ aA,aE,aB]) (by simp +decide only [↓ aA,aE,aB]) (by simp +decide only [↓ aA,aL,aB,ne_eq]) (by simp +decide only [↓ aA,aL,aB,ne_eq]) (by omega) fun t k low o t2 t3 t5 t6 g1 hk=>?_
    have f1:=eY (show 1<k by omega)
    simp +contextual +decide (maxSteps:=1000000) only [↓ wP,wQ,tf,Nat.reduceAdd,wS,reduceCtorEq,t2,t3,t5,t6,g1,f1,ck,cp]
  | true=>
    by_cases g1:((xp.length:Nat):Int)=0
    ·rw [show F=true by rw [hF];rw [decide_eq_true g1];simp [g]]
     simp +contextual +decide (maxSteps:=1000000) only [↓ wP,wQ,tf,Nat.reduceAdd,wS,reduceCtorEq,c1,c2,c3,c4,ck,cp,hf0.len,hsc.len,hsp.len,hsk.len,hsp.stab,wn,w1,aI,g,g1]
     refine lp (kk:=.int .i64 0) true _ _ _ _ (by simp +decide only [↓ aA,aE,aB]) (by simp +decide only [↓ aA,aE,aB]) (by simp +decide only [↓ aA,aE,aB]) (by simp +decide only [↓ aA,aE,aB]) (by simp +decide only [↓ aA,aE,aB]) (by simp +decide only [↓ aA,aL,aB,ne_eq]) (by simp +decide only [↓ aA,aL,aB,ne_eq]) (by omega) fun t k low o t2 t3 t5 t6 g1 hk=>?_
     have f1:=eY (show 1<k by omega)
     rw [Bool.true_and]at t6
     cases hb:xp.all (kU xc) with
     | false=>simp +contextual +decide (maxSteps:=1000000) only [↓ wP,wQ,tf,Nat.reduceAdd,wS,reduceCtorEq,t2,t3,t5,t6,g1,f1,hb,ck,cp]
     | true=>
       have he:=hkids 0
       rw [hK']at hK
       simp +contextual +decide (maxSteps:=1000000) only [↓ wP,wQ,tf,Nat.reduceAdd,wS,reduceCtorEq,t2,t3,t5,t6,g1,f1,hb,ck,cp,hsp.len,hsk.len,hsp.stab,hsk.stab,he,<-hK]
    ·rw [show F=false by rw [hF];rw [decide_eq_false g1];simp]
     simp +contextual +decide (maxSteps:=1000000) only [↓ wP,wQ,tf,Nat.reduceAdd,wS,reduceCtorEq,c1,c2,c3,c4,ck,cp,hf0.len,hsc.len,hsp.len,hsk.len,hsp.stab,wn,w1,aI,g,g1]
     refine lp (kk:=.int .i64 0) false _ _ _ _ (by simp +decide only [↓ aA,aE,aB]) (by simp +decide only [↓ aA,aE,aB]) (by simp +decide only [↓ aA,aE,aB]) (by simp +decide only [↓ aA,aE,aB]) (by simp +decide only [↓ aA,aE,aB]) (by simp +decide only [↓ aA,aL,aB,ne_eq]) (by simp +decide only [↓ aA,aL,aB,ne_eq]) (by omega) fun t k low o t2 t3 t5 t6 g1 hk=>?_
     have f1:=eY (show 1<k by omega)
     simp +contextual +decide (maxSteps:=1000000) only [↓ wP,wQ,tf,Nat.reduceAdd,wS,reduceCtorEq,t2,t3,t5,t6,g1,f1,ck,cp]
 ·have hK':(if (14:Int)=14 then ((xc.getD n.toNat .top).fld 1).num else 0)=((xc.getD n.toNat .top).fld 1).num:=by simp
  cases g:inR n 0 ((xc.length:Nat)-1) with
  | false=>
    rw [show F=false by rw [hF];simp [g]]
    simp +contextual +decide (maxSteps:=1000000) only [↓ wP,wQ,tf,Nat.reduceAdd,wS,reduceCtorEq,c1,c2,c3,c4,ck,cp,hf0.len,hsc.len,hsp.len,hsk.len,hsp.stab,wn,w1,aI,g]
    refine lp (kk:=.int .i64 0) false _ _ _ _ (by simp +decide only [↓ aA,aE,aB]) (by simp +decide only [↓ aA,aE,aB]) (by simp +decide only [↓ aA,aE,aB]) (by simp +decide only [↓ aA,aE,aB]) (by simp +decide only [↓ aA,aE,aB]) (by simp +decide only [↓ aA,aL,aB,ne_eq]) (by simp +decide only [↓ aA,aL,aB,ne_eq]) (by omega) fun t k low o t2 t3 t5 t6 g1 hk=>?_
    have f1:=eY (show 1<k by omega)
    simp +contextual +decide (maxSteps:=1000000) only [↓ wP,wQ,tf,Nat.reduceAdd,wS,reduceCtorEq,t2,t3,t5,t6,g1,f1,ck,cp]
  | true=>
    obtain ⟨i,rfl,hlt⟩:∃ i:Nat,n=i/\i<xc.length:=by
     simp [inR]at g
     exact ⟨n.toNat,by omega,by omega⟩
    obtain ⟨x,hDx,hm,hg,hd,hix,hw,hc⟩:=bK (fun x h=>tk_con.len h) hcx hsc.2 hlt
    obtain ⟨_,_,rfl,⟨c,rfl,hc'⟩,⟨m,rfl⟩⟩:=hDx
    have hget:xc.getD (i:Int).toNat .top=.agg [.str c,.int .i64 m]:=by simp [hg]
    rw [hget,show ((AV.agg [.str c,.int .i64 m]).fld 1).num=m from rfl]at hK' hK
    by_cases g1:((xp.length:Nat):Int)=0
    ·rw [show F=true by rw [hF];rw [decide_eq_true g1];simp [g]]
     simp +contextual +decide (maxSteps:=1000000) only [↓ wP,wQ,tf,Nat.reduceAdd,wS,reduceCtorEq,c1,c2,c3,c4,ck,cp,hf0.len,hsc.len,hsp.len,hsk.len,hsp.stab,wn,w1,aI,g,g1,hsc.idx,hix,hc]
     refine lp (kk:=.int .i64 m) true _ _ _ _ (by simp +decide only [↓ aA,aE,aB]) (by simp +decide only [↓ aA,aE,aB]) (by simp +decide only [↓ aA,aE,aB]) (by simp +decide only [↓ aA,aE,aB]) (by simp +decide only [↓ aA,aE,aB]) (by simp +decide only [↓ aA,aL,aB,ne_eq]) (by simp +decide only [↓ aA,aL,aB,ne_eq]) (by omega) fun t k low o t2 t3 t5 t6 g1 hk=>?_
     have f1:=eY (show 1<k by omega)
     rw [Bool.true_and]at t6
     cases hb:xp.all (kU xc) with
     | false=>simp +contextual +decide (maxSteps:=1000000) only [↓ wP,wQ,tf,Nat.reduceAdd,wS,reduceCtorEq,t2,t3,t5,t6,g1,f1,hb,ck,cp]
     | true=>
       have he:=hkids m
       rw [hK']at hK
       simp +contextual +decide (maxSteps:=1000000) only [↓ wP,wQ,tf,Nat.reduceAdd,wS,reduceCtorEq,t2,t3,t5,t6,g1,f1,hb,ck,cp,hsp.len,hsk.len,hsp.stab,hsk.stab,he,<-hK]
    ·rw [show F=false by rw [hF];rw [decide_eq_false g1];simp]
     simp +contextual +decide (maxSteps:=1000000) only [↓ wP,wQ,tf,Nat.reduceAdd,wS,reduceCtorEq,c1,c2,c3,c4,ck,cp,hf0.len,hsc.len,hsp.len,hsk.len,hsp.stab,wn,w1,aI,g,g1,hsc.idx,hix,hc]
     refine lp (kk:=.int .i64 m) false _ _ _ _ (by simp +decide only [↓ aA,aE,aB]) (by simp +decide only [↓ aA,aE,aB]) (by simp +decide only [↓ aA,aE,aB]) (by simp +decide only [↓ aA,aE,aB]) (by simp +decide only [↓ aA,aE,aB]) (by simp +decide only [↓ aA,aL,aB,ne_eq]) (by simp +decide only [↓ aA,aL,aB,ne_eq]) (by omega) fun t k low o t2 t3 t5 t6 g1 hk=>?_
     have f1:=eY (show 1<k by omega)
     simp +contextual +decide (maxSteps:=1000000) only [↓ wP,wQ,tf,Nat.reduceAdd,wS,reduceCtorEq,t2,t3,t5,t6,g1,f1,ck,cp]
 ·have hK':(if (15:Int)=14 then ((xc.getD n.toNat .top).fld 1).num else 0)=0:=by simp
  by_cases g:n=0
  ·subst g
   have g:(0:Int)=0:=rfl
   cases g1:inR (xp.length:Nat) 1 5 with
   | false=>
     rw [show F=false by rw [hF];simp [g1]]
     simp +contextual +decide (maxSteps:=1000000) only [↓ wP,wQ,tf,Nat.reduceAdd,wS,reduceCtorEq,c1,c2,c3,c4,ck,cp,hf0.len,hsc.len,hsp.len,hsk.len,hsp.stab,wn,w1,aI,g,g1]
     refine lp (kk:=.int .i64 0) false _ _ _ _ (by simp +decide only [↓ aA,aE,aB]) (by simp +decide only [↓ aA,aE,aB]) (by simp +decide only [↓ aA,aE,aB]) (by simp +decide only [↓ aA,aE,aB]) (by simp +decide only [↓ aA,aE,aB]) (by simp +decide only [↓ aA,aL,aB,ne_eq]) (by simp +decide only [↓ aA,aL,aB,ne_eq]) (by omega) fun t k low o t2 t3 t5 t6 g1 hk=>?_
     have f1:=eY (show 1<k by omega)
     simp +contextual +decide (maxSteps:=1000000) only [↓ wP,wQ,tf,Nat.reduceAdd,wS,reduceCtorEq,t2,t3,t5,t6,g1,f1,ck,cp]
   | true=>
     rw [show F=true by rw [hF];simp [g,g1]]
     simp +contextual +decide (maxSteps:=1000000) only [↓ wP,wQ,tf,Nat.reduceAdd,wS,reduceCtorEq,c1,c2,c3,c4,ck,cp,hf0.len,hsc.len,hsp.len,hsk.len,hsp.stab,wn,w1,aI,g,g1]
     refine lp (kk:=.int .i64 0) true _ _ _ _ (by simp +decide only [↓ aA,aE,aB]) (by simp +decide only [↓ aA,aE,aB]) (by simp +decide only [↓ aA,aE,aB]) (by simp +decide only [↓ aA,aE,aB]) (by simp +decide only [↓ aA,aE,aB]) (by simp +decide only [↓ aA,aL,aB,ne_eq]) (by simp +decide only [↓ aA,aL,aB,ne_eq]) (by omega) fun t k low o t2 t3 t5 t6 g1 hk=>?_
     have f1:=eY (show 1<k by omega)
     rw [Bool.true_and]at t6
     cases hb:xp.all (kU xc) with
     | false=>simp +contextual +decide (maxSteps:=1000000) only [↓ wP,wQ,tf,Nat.reduceAdd,wS,reduceCtorEq,t2,t3,t5,t6,g1,f1,hb,ck,cp]
     | true=>
       have he:=hkids 0
       rw [hK']at hK
       simp +contextual +decide (maxSteps:=1000000) only [↓ wP,wQ,tf,Nat.reduceAdd,wS,reduceCtorEq,t2,t3,t5,t6,g1,f1,hb,ck,cp,hsp.len,hsk.len,hsp.stab,hsk.stab,he,<-hK]
  ·rw [show F=false by rw [hF];simp [g]]
   simp +contextual +decide (maxSteps:=1000000) only [↓ wP,wQ,tf,Nat.reduceAdd,wS,reduceCtorEq,c1,c2,c3,c4,ck,cp,hf0.len,hsc.len,hsp.len,hsk.len,hsp.stab,wn,w1,aI,g]
   refine lp (kk:=.int .i64 0) false _ _ _ _ (by simp +decide only [↓ aA,aE,aB]) (by simp +decide only [↓ aA,aE,aB]) (by simp +decide only [↓ aA,aE,aB]) (by simp +decide only [↓ aA,aE,aB]) (by simp +decide only [↓ aA,aE,aB]) (by simp +decide only [↓ aA,aL,aB,ne_eq]) (by simp +decide only [↓ aA,aL,aB,ne_eq]) (by omega) fun t k low o t2 t3 t5 t6 g1 hk=>?_
   have f1:=eY (show 1<k by omega)
   simp +contextual +decide (maxSteps:=1000000) only [↓ wP,wQ,tf,Nat.reduceAdd,wS,reduceCtorEq,t2,t3,t5,t6,g1,f1,ck,cp]
 ·have hK':(if op=14 then ((xc.getD n.toNat .top).fld 1).num else 0)=0:=by simp [p14]
  by_cases g:n=0
  ·subst g
   have g:(0:Int)=0:=rfl
   by_cases g1:((xp.length:Nat):Int)=0
   ·rw [show F=true by rw [hF];rw [decide_eq_true g1];simp [g,p1,p2,p4,p24,p14,p15]]
    simp +contextual +decide (maxSteps:=1000000) only [↓ wP,wQ,tf,Nat.reduceAdd,wS,reduceCtorEq,c1,c2,c3,c4,ck,cp,hf0.len,hsc.len,hsp.len,hsk.len,hsp.stab,wn,w1,aI,g,g1,p1,p2,p4,p24,p14,p15]
    refine lp (kk:=.int .i64 0) true _ _ _ _ (by simp +decide only [↓ aA,aE,aB]) (by simp +decide only [↓ aA,aE,aB]) (by simp +decide only [↓ aA,aE,aB]) (by simp +decide only [↓ aA,aE,aB]) (by simp +decide only [↓ aA,aE,aB]) (by simp +decide only [↓ aA,aL,aB,ne_eq]) (by simp +decide only [↓ aA,aL,aB,ne_eq]) (by omega) fun t k low o t2 t3 t5 t6 g1 hk=>?_
    have f1:=eY (show 1<k by omega)
    rw [Bool.true_and]at t6
    cases hb:xp.all (kU xc) with
    | false=>simp +contextual +decide (maxSteps:=1000000) only [↓ wP,wQ,tf,Nat.reduceAdd,wS,reduceCtorEq,t2,t3,t5,t6,g1,f1,hb,ck,cp]
    | true=>
      have he:=hkids 0
      rw [hK']at hK
      simp +contextual +decide (maxSteps:=1000000) only [↓ wP,wQ,tf,Nat.reduceAdd,wS,reduceCtorEq,t2,t3,t5,t6,g1,f1,hb,ck,cp,hsp.len,hsk.len,hsp.stab,hsk.stab,he,<-hK]
   ·rw [show F=false by rw [hF];rw [decide_eq_false g1];simp [p15]]
    simp +contextual +decide (maxSteps:=1000000) only [↓ wP,wQ,tf,Nat.reduceAdd,wS,reduceCtorEq,c1,c2,c3,c4,ck,cp,hf0.len,hsc.len,hsp.len,hsk.len,hsp.stab,wn,w1,aI,g,g1,p1,p2,p4,p24,p14,p15]
    refine lp (kk:=.int .i64 0) false _ _ _ _ (by simp +decide only [↓ aA,aE,aB]) (by simp +decide only [↓ aA,aE,aB]) (by simp +decide only [↓ aA,aE,aB]) (by simp +decide only [↓ aA,aE,aB]) (by simp +decide only [↓ aA,aE,aB]) (by simp +decide only [↓ aA,aL,aB,ne_eq]) (by simp +decide only [↓ aA,aL,aB,ne_eq]) (by omega) fun t k low o t2 t3 t5 t6 g1 hk=>?_
    have f1:=eY (show 1<k by omega)
    simp +contextual +decide (maxSteps:=1000000) only [↓ wP,wQ,tf,Nat.reduceAdd,wS,reduceCtorEq,t2,t3,t5,t6,g1,f1,ck,cp]
  ·rw [show F=false by rw [hF];simp [g,p1,p2,p4,p24,p14,p15]]
   simp +contextual +decide (maxSteps:=1000000) only [↓ wP,wQ,tf,Nat.reduceAdd,wS,reduceCtorEq,c1,c2,c3,c4,ck,cp,hf0.len,hsc.len,hsp.len,hsk.len,hsp.stab,wn,w1,aI,g,p1,p2,p4,p24,p14,p15]
   refine lp (kk:=.int .i64 0) false _ _ _ _ (by simp +decide only [↓ aA,aE,aB]) (by simp +decide only [↓ aA,aE,aB]) (by simp +decide only [↓ aA,aE,aB]) (by simp +decide only [↓ aA,aE,aB]) (by simp +decide only [↓ aA,aE,aB]) (by simp +decide only [↓ aA,aL,aB,ne_eq]) (by simp +decide only [↓ aA,aL,aB,ne_eq]) (by omega) fun t k low o t2 t3 t5 t6 g1 hk=>?_
   have f1:=eY (show 1<k by omega)
   simp +contextual +decide (maxSteps:=1000000) only [↓ wP,wQ,tf,Nat.reduceAdd,wS,reduceCtorEq,t2,t3,t5,t6,g1,f1,ck,cp]
end
end Go.Proofs.YthakciolcdlphaaGreat
