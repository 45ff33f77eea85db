/-
  The reference of meanings: tasks and objects as they are defined.
-/
import Derived.Test.YtpmccfnfikkkbaaGreatNg
set_option linter.unusedVariables false
set_option linter.unusedSimpArgs false
namespace Go.Proofs.YtpmccfnfikkkbaaGreat
open Go.Abs Go Go.Abs.TryzF
noncomputable section
set_option maxRecDepth 10000
section
variable {ns fs mm cs os ts us is uu:AV}
theorem aHu {xn:List AV} {ns g:AV} {xg:List AV} {nf no:Int} (hg:Sl g xg) (hx:∀ x∈xg,TFr x) (hn:Sl ns xn) (h:qL xn nf no xg=true):TSl (TFn ns) g:=
 ⟨xg,hg,fun x hm=>⟨hx x hm,by
  simp only [qL,Bool.and_eq_true]at h
  rw [hn.els];exact yV (List.all_eq_true.1 h.2 x hm)⟩⟩
def iB (ns:List AV) (nf no:Int) (n:Int) (vs fs:List AV):Bool:=
 if n=0 then qL ns nf no fs&&fL nf no 1 vs&&decide (0<(fs.length:Int)+vs.length)&&(fs.take (min (fs.length:Int) (max 0 ((fs.length:Int)-1+vs.length))).toNat).all (lW ns)
 else if n=1 then decide ((fs.length:Int)=0)&&decide ((vs.length:Int)=1)&&fL nf no 1 vs
 else if n=2 then decide ((fs.length:Int)=0)&&decide ((vs.length:Int)=0) else if n=3 then decide ((fs.length:Int)=0)&&decide ((vs.length:Int)=0)
 else if n=4 then decide ((fs.length:Int)=0)&&decide ((vs.length:Int)=0) else false
abbrev VP (P W:AV) (xn:List AV) (nf no:Int):List AV->Option AV:=sg3 (fun a b c=>a=P/\b=W/\CO c) fun _ _ c=>.bool (iB xn nf no (c.fld 1).num (c.fld 2).els (c.fld 3).els)
abbrev LT (ns fs mm cs os ts us is uu:AV):List lX:=[ent 217 (tV (pg ns fs mm cs) (wd os ts us is uu) ns.els fs.els.length os.els.length),ent 219 (lV (pg ns fs mm cs) (wd os ts us is uu) fs.els.length os.els.length),ent 218 (wF (pg ns fs mm cs) ns)]
set_option maxHeartbeats 4000000 in
theorem aHv (h:RW ns fs mm cs os ts us is uu):Abs.Ok Tryz.prog 216 (VP (pg ns fs mm cs) (wd os ts us is uu) ns.els fs.els.length os.els.length):=ok3 fun a b x ⟨ea,eb,hx⟩=>by
 subst ea;subst eb;have hux:=(tk_ob x hx).1;obtain ⟨c1,c2,c3,c4,c5,c6,c7,c8,c9⟩:=h.cells;obtain ⟨_,_,v,g,rfl,⟨k,rfl⟩,⟨n,rfl⟩,hv,hg⟩:=hx;have cv:=(bI _ hv).2;have cg:=(lE _ hg).2;have hv1:lV (pg ns fs mm cs) (wd os ts us is uu) fs.els.length os.els.length [pg ns fs mm cs,wd os ts us is uu,v,.int .i64 1]=some (.bool (fL fs.els.length os.els.length 1 v.els)):=MK ⟨rfl,rfl,hv,_,rfl⟩;have hf1:tV (pg ns fs mm cs) (wd os ts us is uu) ns.els fs.els.length os.els.length [pg ns fs mm cs,wd os ts us is uu,g]=some (.bool (qL ns.els fs.els.length os.els.length g.els)):=rV ⟨rfl,rfl,hg⟩;obtain ⟨xv,hsv,hxv⟩:=hv;obtain ⟨xg,hsg,hxg⟩:=hg;obtain ⟨xn,hn0,hnx⟩:=h.ns;have hlv:=hsv.2;have hlg:=hsg.2;refine aF (L:=LT ns fs mm cs os ts us is uu) (elist_cons (GE h).ent (elist_cons (rvalues_ok h).ent (elist_cons (QM h.ns h.fs h.mm h.cs).ent aE))) aG (by kernel_rfl) Tryz.func216 Tryz.ntmps216 Tryz.results216 rfl rfl (aA (dX _ h.pg).1.und (aA (tk_wd _ h.wd).1.und (aA hux.und aD))) aI ?_;show Wk _ _ _ _ _ (jM _ _ (fun _ r=>r=.bool (iB ns.els fs.els.length os.els.length n v.els g.els)) _);rw [hsv.els]at hv1 ⊢;rw [hsg.els]at hf1 ⊢;by_cases k0:n=0
 ·subst k0
  cases k1:qL ns.els fs.els.length os.els.length xg with
  | false=>simp +contextual +decide (maxSteps:=1000000) only [↓ wP,wQ,tf,Nat.reduceAdd,wS,c1,c2,c3,c4,c5,c6,c7,c8,c9,cv,cg,hsg.len,hf1,k1];simp +decide only [wT,iB,k1]
  | true=>
  cases k2:fL fs.els.length os.els.length 1 xv with
  | false=>simp +contextual +decide (maxSteps:=1000000) only [↓ wP,wQ,tf,Nat.reduceAdd,wS,c1,c2,c3,c4,c5,c6,c7,c8,c9,cv,cg,hsg.len,hf1,k1,hv1,k2];simp +decide only [wT,iB,k1,k2]
  | true=>
  have e1:xg.length<=40:=by simp only [qL,Bool.and_eq_true,decide_eq_true_eq]at k1;exact k1.1
  have e2:xv.length<=1:=by simp only [fL,Bool.and_eq_true,decide_eq_true_eq]at k2;omega
  have w1:IntKind.i64.wrap (((xg.length:Nat):Int)+((xv.length:Nat):Int))=((xg.length:Nat):Int)+((xv.length:Nat):Int):=IntWalk.i64_in _ (by omega);have w2:IntKind.i64.wrap (((xg.length:Nat):Int)-1)=((xg.length:Nat):Int)-1:=IntWalk.i64_in _ (by omega);have w3:IntKind.i64.wrap (((xg.length:Nat):Int)-1+((xv.length:Nat):Int))=((xg.length:Nat):Int)-1+((xv.length:Nat):Int):=IntWalk.i64_in _ (by omega);by_cases k3:((xg.length:Nat):Int)+((xv.length:Nat):Int) > 0
  ·have m1:(if ((xg.length:Nat):Int)-1+((xv.length:Nat):Int) > 0 then ((xg.length:Nat):Int)-1+((xv.length:Nat):Int) else 0)=((xg.length:Nat):Int)-1+((xv.length:Nat):Int):=by split<;>omega
   obtain ⟨M,hM⟩:∃ M:Nat,(if ((xg.length:Nat):Int)-1+((xv.length:Nat):Int)<((xg.length:Nat):Int) then ((xg.length:Nat):Int)-1+((xv.length:Nat):Int) else ((xg.length:Nat):Int))=(M:Int):=⟨(min (xg.length:Int) (max 0 ((xg.length:Int)-1+xv.length))).toNat,by split<;>omega⟩
   have hMl:M<=xg.length:=by split at hM<;>omega
   have hM':(min (xg.length:Int) (max 0 ((xg.length:Int)-1+xv.length))).toNat=M:=by split at hM<;>omega
   have ho:wF (pg ns fs mm cs) ns [pg ns fs mm cs,g,.int .i64 (M:Nat)]=some (.bool ((xg.take M).all (lW ns.els))):=by
    rw [wF,rV ⟨rfl,aHu hsg hxg hn0 (by rw [<-hn0.els];exact k1),M,rfl,by rw [hsg.els];exact hMl⟩,hsg.els];rfl
   simp +contextual +decide (maxSteps:=1000000) only [↓ wP,wQ,tf,Nat.reduceAdd,wS,c1,c2,c3,c4,c5,c6,c7,c8,c9,cv,cg,hsg.len,hsv.len,hf1,k1,hv1,k2,w1,w2,w3,k3,aGm,aGl,m1,hM,ho];simp +decide only [wT,iB,k1,k2,hM',show (0<((xg.length:Nat):Int)+((xv.length:Nat):Int))=True from eq_true k3]
  ·simp +contextual +decide (maxSteps:=1000000) only [↓ wP,wQ,tf,Nat.reduceAdd,wS,c1,c2,c3,c4,c5,c6,c7,c8,c9,cv,cg,hsg.len,hsv.len,hf1,k1,hv1,k2,w1,k3]
   simp +decide only [wT,iB,k1,k2,show (0<((xg.length:Nat):Int)+((xv.length:Nat):Int))=False from eq_false k3]
 by_cases k1:n=1
 ·subst k1
  by_cases k2:((xg.length:Nat):Int)=0
  ·by_cases k3:((xv.length:Nat):Int)=1
   ·simp +contextual +decide (maxSteps:=1000000) only [↓ wP,wQ,tf,Nat.reduceAdd,wS,c1,c2,c3,c4,c5,c6,c7,c8,c9,cv,cg,hsg.len,hsv.len,k2,k3,hv1];simp +decide only [wT,iB,k2,k3]
   ·simp +contextual +decide (maxSteps:=1000000) only [↓ wP,wQ,tf,Nat.reduceAdd,wS,c1,c2,c3,c4,c5,c6,c7,c8,c9,cv,cg,hsg.len,hsv.len,k2,k3];simp +decide only [wT,iB,k2,k3]
  ·simp +contextual +decide (maxSteps:=1000000) only [↓ wP,wQ,tf,Nat.reduceAdd,wS,c1,c2,c3,c4,c5,c6,c7,c8,c9,cv,cg,hsg.len,k2];simp +decide only [wT,iB,k2]
 by_cases k2:n=2∨n=3∨n=4
 ·rcases k2 with rfl | rfl | rfl
  all_goals
   by_cases k3:((xg.length:Nat):Int)=0
   ·simp +contextual +decide (maxSteps:=1000000) only [↓ wP,wQ,tf,Nat.reduceAdd,wS,c1,c2,c3,c4,c5,c6,c7,c8,c9,cv,cg,hsg.len,hsv.len,k3];simp +decide only [wT,iB,k3]
   ·simp +contextual +decide (maxSteps:=1000000) only [↓ wP,wQ,tf,Nat.reduceAdd,wS,c1,c2,c3,c4,c5,c6,c7,c8,c9,cv,cg,hsg.len,k3];simp +decide only [wT,iB,k3]
 ·have e2:n≠2:=by omega
  have e3:n≠3:=by omega
  have e4:n≠4:=by omega
  simp +contextual +decide (maxSteps:=1000000) only [↓ wP,wQ,tf,Nat.reduceAdd,wS,c1,c2,c3,c4,c5,c6,c7,c8,c9,cv,cg,k0,k1,e2,e3,e4];simp +decide only [wT,iB,k0,k1,e2,e3,e4]
end
section
variable {ns fs mm cs os ts us is uu:AV}
def mG (ns cs:List AV) (nf no:Int) (k n:Int) (vs fs:List AV):Bool:=
 if k=6 then iB ns nf no n vs fs
 else if k=5 then decide (n=0)&&decide ((vs.length:Int)=0)&&decide (0<(fs.length:Int))&&qL ns nf no fs&&(fs.take fs.length).all (lW ns)&&decide (((eV ns ((fs.getD 0 .top).fld 0).num).fld 0).num=26)
 else if (fs.length:Int)=0 then
  (if k=1 then inR n 0 ((cs.length:Int)-1)&&decide ((vs.length:Int)=((cs.getD n.toNat .top).fld 1).num)&&fL nf no 3 vs
  else if k=2 then inR n 0 ((ns.length:Int)-1)&&decide (((eV ns n).fld 0).num=5)&&fL nf no 30 vs
  else if k=3 then decide (n=0)&&decide ((vs.length:Int)=1)&&fL nf no 1 vs
  else if k=4 then decide (n=0)&&fL nf no 4 vs
  else false)
 else false
abbrev aQx (P W:AV) (xn xc:List AV) (nf no:Int):List AV->Option AV:=sg3 (fun a b c=>a=P/\b=W/\CO c) fun _ _ c=>.bool (mG xn xc nf no (c.fld 0).num (c.fld 1).num (c.fld 2).els (c.fld 3).els)
set_option maxHeartbeats 8000000 in
theorem VQ (h:RW ns fs mm cs os ts us is uu):Abs.Ok Tryz.prog 139 (aQx (pg ns fs mm cs) (wd os ts us is uu) ns.els cs.els fs.els.length os.els.length):=ok3 fun a b x ⟨ea,eb,hx⟩=>by
 subst ea;subst eb;have hux:=(tk_ob x hx).1;obtain ⟨c1,c2,c3,c4,c5,c6,c7,c8,c9⟩:=h.cells;obtain ⟨_,_,v,g,rfl,⟨k,rfl⟩,⟨n,rfl⟩,hv,hg⟩:=hx;have ht:VP (pg ns fs mm cs) (wd os ts us is uu) ns.els fs.els.length os.els.length [pg ns fs mm cs,wd os ts us is uu,.agg [.int .i64 k,.int .i64 n,v,g]]=some (.bool (iB ns.els fs.els.length os.els.length n v.els g.els)):=rV ⟨rfl,rfl,_,_,_,_,rfl,⟨_,rfl⟩,⟨_,rfl⟩,hv,hg⟩;have cv:=(bI _ hv).2;have cg:=(lE _ hg).2;have hv1:∀ {m:Int},lV (pg ns fs mm cs) (wd os ts us is uu) fs.els.length os.els.length [pg ns fs mm cs,wd os ts us is uu,v,.int .i64 m]=some (.bool (fL fs.els.length os.els.length m v.els)):=MK ⟨rfl,rfl,hv,_,rfl⟩;have hf1:tV (pg ns fs mm cs) (wd os ts us is uu) ns.els fs.els.length os.els.length [pg ns fs mm cs,wd os ts us is uu,g]=some (.bool (qL ns.els fs.els.length os.els.length g.els)):=rV ⟨rfl,rfl,hg⟩;obtain ⟨xv,hsv,hxv⟩:=hv;obtain ⟨xg,hsg,hxg⟩:=hg;obtain ⟨xn,hn0,hnx⟩:=h.ns;obtain ⟨xc,hc0,hcx⟩:=h.cs;have w1:=bV hn0.2;have w2:=bV hc0.2
 refine aF (L:=[ent 137 iC,ent 216 (VP (pg ns fs mm cs) (wd os ts us is uu) ns.els fs.els.length os.els.length),ent 217 (tV (pg ns fs mm cs) (wd os ts us is uu) ns.els fs.els.length os.els.length),ent 219 (lV (pg ns fs mm cs) (wd os ts us is uu) fs.els.length os.els.length),ent 218 (wF (pg ns fs mm cs) ns)])
  (elist_cons rIn6_ok.ent (elist_cons (aHv h).ent (elist_cons (GE h).ent (elist_cons (rvalues_ok h).ent (elist_cons (QM h.ns h.fs h.mm h.cs).ent aE))))) (fun r=>(bif Nat.beq r 4 then [20,29] else bif Nat.beq r 9 then [6,25] else [],[])) (by kernel_rfl) Tryz.func139 Tryz.ntmps139 Tryz.results139 rfl rfl (aA (dX _ h.pg).1.und (aA (tk_wd _ h.wd).1.und (aA hux.und aD))) aI ?_
 show Wk _ _ _ _ _ (jM _ _ (fun _ r=>r=.bool (mG ns.els cs.els fs.els.length os.els.length k n v.els g.els)) _);rw [hsv.els]at hv1 ht ⊢;rw [hsg.els]at hf1 ht ⊢;by_cases k6:k=6
 ·subst k6
  simp +contextual +decide (maxSteps:=1000000) only [↓ wP,wQ,tf,Nat.reduceAdd,wS,c1,c2,c3,c4,c5,c6,c7,c8,c9,cv,cg,ht];simp +decide only [wT,AV.fld,AV.num,mG]
 by_cases k5:k=5
 ·subst k5
  by_cases g2:n=0
  ·by_cases g3:((xv.length:Nat):Int)=0
   ·by_cases g1:((xg.length:Nat):Int) > 0
    ·have g1':(0<((xg.length:Nat):Int))=True:=eq_true g1
     cases g4:qL ns.els fs.els.length os.els.length xg with
     | false=>simp +contextual +decide (maxSteps:=1000000) only [↓ wP,wQ,tf,Nat.reduceAdd,wS,c1,c2,c3,c4,c5,c6,c7,c8,c9,cv,cg,hsg.len,hsg.stab,hsv.len,hsv.stab,g1,g2,g3,hf1,g4];simp +decide only [wT,AV.fld,AV.num,mG,g4]
     | true=>
       have ho:wF (pg ns fs mm cs) ns [pg ns fs mm cs,g,.int .i64 (xg.length:Nat)]=some (.bool ((xg.take xg.length).all (lW ns.els))):=by
        rw [wF,rV ⟨rfl,aHu hsg hxg hn0 (by rw [<-hn0.els];exact g4),xg.length,rfl,by rw [hsg.els];exact Nat.le_refl _⟩,hsg.els];rfl
       cases g5:(xg.take xg.length).all (lW ns.els) with
       | false=>simp +contextual +decide (maxSteps:=1000000) only [↓ wP,wQ,tf,Nat.reduceAdd,wS,c1,c2,c3,c4,c5,c6,c7,c8,c9,cv,cg,hsg.len,hsg.stab,hsv.len,hsv.stab,g1,g2,g3,hf1,g4,ho,g5];simp +decide only [wT,AV.fld,AV.num,mG,g4,g5]
       | true=>
         have g0:inR 0 0 ((xg.length:Int)-1)=true:=by simp only [inR,Bool.and_eq_true,decide_eq_true_eq];omega
         obtain ⟨y,hD,hym,hy,hix,hpf,_,_⟩:=oD tk_fr hxg g0;have hall:=g4;simp only [qL,Bool.and_eq_true]at hall;have hin:=yV (List.all_eq_true.1 hall.2 y hym);obtain ⟨_,_,_,rfl,⟨m,rfl⟩,q1,q2⟩:=hD;have e1:=(bI _ q1).2;have e2:=(bI _ q2).2;rw [hn0.els]at hin;obtain ⟨z,hDz,_,hz,hix2,hpf2,_,_⟩:=oD tk_node hnx hin;obtain ⟨_,_,_,_,rfl,⟨op,rfl⟩,⟨m',rfl⟩,q3,q4⟩:=hDz;have e3:=(aV _ q3).2;have e4:=(fY _ q4).2;have hix2':∀ {q:IntKind} {d:Option AV},dS (some 4) xn (.int q m) d=some (.pf (.agg [.int .i64 op,.int .i64 m',_,_])):=hix2;simp +contextual +decide (maxSteps:=1000000) only [↓ wP,wQ,tf,Nat.reduceAdd,wS,c1,c2,c3,c4,c5,c6,c7,c8,c9,cv,cg,hsg.len,hsg.stab,hsg.idx,hsv.len,hsv.stab,g1,g2,g3,hf1,g4,ho,g5,hix,hn0.idx,hix2']
         have g4':qL xn fs.els.length os.els.length xg=true:=by rw [<-hn0.els];exact g4
         have g5':(xg.take xg.length).all (lW xn)=true:=by rw [<-hn0.els];exact g5
         have hy':xg.getD 0 .top=.agg [.int .i64 m,_,_]:=hy;have hz':xn.getD m.toNat .top=.agg [.int .i64 op,.int .i64 m',_,_]:=hz;simp +decide only [wT,AV.fld,AV.num,mG,g1',g3,g4',g5',hn0.els,eV,hy',hz']
    ·have g1':(0<((xg.length:Nat):Int))=False:=eq_false g1
     simp +contextual +decide (maxSteps:=1000000) only [↓ wP,wQ,tf,Nat.reduceAdd,wS,c1,c2,c3,c4,c5,c6,c7,c8,c9,cv,cg,hsg.len,hsg.stab,hsv.len,hsv.stab,g1,g2,g3];simp +decide only [wT,AV.fld,AV.num,mG,g1']
   ·simp +contextual +decide (maxSteps:=1000000) only [↓ wP,wQ,tf,Nat.reduceAdd,wS,c1,c2,c3,c4,c5,c6,c7,c8,c9,cv,cg,hsv.len,hsv.stab,g2,g3];simp +decide only [wT,AV.fld,AV.num,mG,g3]
  ·simp +contextual +decide (maxSteps:=1000000) only [↓ wP,wQ,tf,Nat.reduceAdd,wS,c1,c2,c3,c4,c5,c6,c7,c8,c9,cv,cg,g2];simp +decide only [wT,AV.fld,AV.num,mG,g2]
 by_cases g1:((xg.length:Nat):Int)=0
 ·by_cases k1:k=1
  ·subst k1
   cases g2:inR n 0 ((xc.length:Int)-1) with
   | false=>simp +contextual +decide (maxSteps:=1000000) only [↓ wP,wQ,tf,Nat.reduceAdd,wS,c1,c2,c3,c4,c5,c6,c7,c8,c9,cv,cg,hsg.len,g1,hc0.len,hc0.stab,w2,aH,g2];simp +decide only [wT,AV.fld,AV.num,mG,hc0.els,g1,g2]
   | true=>
     obtain ⟨y,hD,_,hy,hix,hpf,_,_⟩:=oD tk_con hcx g2;obtain ⟨_,_,rfl,⟨b,rfl,_⟩,⟨m,rfl⟩⟩:=hD;by_cases g3:((xv.length:Nat):Int)=m
     ·simp +contextual +decide (maxSteps:=1000000) only [↓ wP,wQ,tf,Nat.reduceAdd,wS,c1,c2,c3,c4,c5,c6,c7,c8,c9,cv,cg,hsg.len,g1,hc0.len,hc0.idx,hc0.stab,w2,aH,g2,hix,hsv.len,hsv.stab,g3,hv1]
      simp +decide only [wT,AV.fld,AV.num,mG,hc0.els,hy,g1,g2,g3]
     ·simp +contextual +decide (maxSteps:=1000000) only [↓ wP,wQ,tf,Nat.reduceAdd,wS,c1,c2,c3,c4,c5,c6,c7,c8,c9,cv,cg,hsg.len,g1,hc0.len,hc0.idx,hc0.stab,w2,aH,g2,hix,hsv.len,hsv.stab,g3]
      simp +decide only [wT,AV.fld,AV.num,mG,hc0.els,hy,g1,g2,g3]
  by_cases k2:k=2
  ·subst k2
   cases g2:inR n 0 ((xn.length:Int)-1) with
   | false=>simp +contextual +decide (maxSteps:=1000000) only [↓ wP,wQ,tf,Nat.reduceAdd,wS,c1,c2,c3,c4,c5,c6,c7,c8,c9,cv,cg,hsg.len,g1,hn0.len,w1,aH,g2];simp +decide only [wT,AV.fld,AV.num,mG,hn0.els,g1,g2]
   | true=>
     obtain ⟨y,hD,_,hy,hix,hpf,_,_⟩:=oD tk_node hnx g2;obtain ⟨_,_,_,_,rfl,⟨op,rfl⟩,⟨m,rfl⟩,q1,q2⟩:=hD;have e1:=(aV _ q1).2;have e2:=(fY _ q2).2;by_cases g3:op=5
     ·simp +contextual +decide (maxSteps:=1000000) only [↓ wP,wQ,tf,Nat.reduceAdd,wS,c1,c2,c3,c4,c5,c6,c7,c8,c9,cv,cg,hsg.len,g1,hn0.len,hn0.idx,w1,aH,g2,hix,g3,hv1]
      simp +decide only [wT,AV.fld,AV.num,mG,hn0.els,eV,hy,g1,g2,g3]
     ·simp +contextual +decide (maxSteps:=1000000) only [↓ wP,wQ,tf,Nat.reduceAdd,wS,c1,c2,c3,c4,c5,c6,c7,c8,c9,cv,cg,hsg.len,g1,hn0.len,hn0.idx,w1,aH,g2,hix,g3]
      simp +decide only [wT,AV.fld,AV.num,mG,hn0.els,eV,hy,g1,g2,g3]
  by_cases k3:k=3
  ·subst k3
   by_cases g2:n=0
   ·by_cases g3:((xv.length:Nat):Int)=1
    ·simp +contextual +decide (maxSteps:=1000000) only [↓ wP,wQ,tf,Nat.reduceAdd,wS,c1,c2,c3,c4,c5,c6,c7,c8,c9,cv,cg,hsg.len,g1,hsv.len,g2,g3,hv1];simp +decide only [wT,AV.fld,AV.num,mG,g1,g3]
    ·simp +contextual +decide (maxSteps:=1000000) only [↓ wP,wQ,tf,Nat.reduceAdd,wS,c1,c2,c3,c4,c5,c6,c7,c8,c9,cv,cg,hsg.len,g1,hsv.len,g2,g3];simp +decide only [wT,AV.fld,AV.num,mG,g1,g3]
   ·simp +contextual +decide (maxSteps:=1000000) only [↓ wP,wQ,tf,Nat.reduceAdd,wS,c1,c2,c3,c4,c5,c6,c7,c8,c9,cv,cg,hsg.len,g1,g2];simp +decide only [wT,AV.fld,AV.num,mG,g1,g2]
  by_cases k4:k=4
  ·subst k4
   by_cases g2:n=0
   ·simp +contextual +decide (maxSteps:=1000000) only [↓ wP,wQ,tf,Nat.reduceAdd,wS,c1,c2,c3,c4,c5,c6,c7,c8,c9,cv,cg,hsg.len,g1,g2,hv1];simp +decide only [wT,AV.fld,AV.num,mG,g1]
   ·simp +contextual +decide (maxSteps:=1000000) only [↓ wP,wQ,tf,Nat.reduceAdd,wS,c1,c2,c3,c4,c5,c6,c7,c8,c9,cv,cg,hsg.len,g1,g2];simp +decide only [wT,AV.fld,AV.num,mG,g1,g2]
  simp +contextual +decide (maxSteps:=1000000) only [↓ wP,wQ,tf,Nat.reduceAdd,wS,c1,c2,c3,c4,c5,c6,c7,c8,c9,cv,cg,hsg.len,g1,k1,k2,k3,k4,k5,k6];simp +decide only [wT,AV.fld,AV.num,mG,k1,k2,k3,k4,k5,k6,g1]
 ·simp +contextual +decide (maxSteps:=1000000) only [↓ wP,wQ,tf,Nat.reduceAdd,wS,c1,c2,c3,c4,c5,c6,c7,c8,c9,cv,cg,hsg.len,g1,k5,k6]
  simp +decide only [wT,AV.fld,AV.num,mG,k5,k6,g1]
end
end
end Go.Proofs.YtpmccfnfikkkbaaGreat
