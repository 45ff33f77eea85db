/-
  The reference of meanings: tasks and objects as they are defined.
-/
import Derived.Test.YthakciolcdlphaaGreatNg
set_option linter.unusedVariables false
set_option linter.unusedSimpArgs false
namespace Go.Proofs.YthakciolcdlphaaGreat
open Go.Abs Go Go.Abs.TryzF
noncomputable section
set_option maxRecDepth 10000
section
variable {ns fs mm cs os ts us is uu:AV}
theorem ZA {xn:List AV} {ns g:AV} {xg:List AV} {nf no:Int} (hg:Sl g xg) (hx:∀ x∈xg,ZJ x) (hn:Sl ns xn) (h:nE xn nf no xg=true):TSl (TFn ns) g:=
 ⟨xg,hg,fun x hm=>⟨hx x hm,by
  simp only [nE,Bool.and_eq_true]at h
  rw [hn.els];exact uR (List.all_eq_true.1 h.2 x hm)⟩⟩
def fZ (ns:List AV) (nf no:Int) (n:Int) (vs fs:List AV):Bool:=
 if n=0 then nE ns nf no fs&&dX nf no 1 vs&&decide (0<(fs.length:Int)+vs.length)&&(fs.take (min (fs.length:Int) (max 0 ((fs.length:Int)-1+vs.length))).toNat).all (kC ns)
 else if n=1 then decide ((fs.length:Int)=0)&&decide ((vs.length:Int)=1)&&dX nf no 1 vs
 else if n=2 then decide ((fs.length:Int)=0)&&decide ((vs.length:Int)=0) else if n=3 then decide ((fs.length:Int)=0)&&decide ((vs.length:Int)=0)
 else if n=4 then decide ((fs.length:Int)=0)&&decide ((vs.length:Int)=0) else false
abbrev NO (P W:AV) (xn:List AV) (nf no:Int):List AV->Option AV:=sg3 (fun a b c=>a=P/\b=W/\sW c) fun _ _ c=>.bool (fZ xn nf no (c.fld 1).num (c.fld 2).els (c.fld 3).els)
abbrev LT (ns fs mm cs os ts us is uu:AV):List kL:=[ent 70 (qW (pg ns fs mm cs) (wd os ts us is uu) ns.els fs.els.length os.els.length),ent 72 (jZ (pg ns fs mm cs) (wd os ts us is uu) fs.els.length os.els.length),ent 71 (tS (pg ns fs mm cs) ns)]
set_option maxHeartbeats 4000000 in
theorem ZB (h:RW ns fs mm cs os ts us is uu):Abs.Ok Tryz.prog 69 (NO (pg ns fs mm cs) (wd os ts us is uu) ns.els fs.els.length os.els.length):=ok3 fun a b x ⟨ea,eb,hx⟩=>by
 subst ea;subst eb
 have hux:=(tk_ob x hx).1
 obtain ⟨c1,c2,c3,c4,c5,c6,c7,c8,c9⟩:=h.cells
 obtain ⟨_,_,v,g,rfl,⟨k,rfl⟩,⟨n,rfl⟩,hv,hg⟩:=hx
 have cv:=(tu_vals _ hv).2
 have cg:=(fC _ hg).2
 have hv1:jZ (pg ns fs mm cs) (wd os ts us is uu) fs.els.length os.els.length [pg ns fs mm cs,wd os ts us is uu,v,.int .i64 1]=some (.bool (dX fs.els.length os.els.length 1 v.els)):=GC ⟨rfl,rfl,hv,_,rfl⟩
 have hf1:qW (pg ns fs mm cs) (wd os ts us is uu) ns.els fs.els.length os.els.length [pg ns fs mm cs,wd os ts us is uu,g]=some (.bool (nE ns.els fs.els.length os.els.length g.els)):=oZ ⟨rfl,rfl,hg⟩
 obtain ⟨xv,hsv,hxv⟩:=hv
 obtain ⟨xg,hsg,hxg⟩:=hg
 obtain ⟨xn,hn0,hnx⟩:=h.ns
 have hlv:=hsv.2
 have hlg:=hsg.2
 refine aH (L:=LT ns fs mm cs os ts us is uu) (elist_cons (AS h).ent (elist_cons (tR h).ent (elist_cons (IZ h.ns h.fs h.mm h.cs).ent aG))) aN (by kernel_rfl) Tryz.func69 Tryz.ntmps69 Tryz.results69 rfl rfl (aC (dG _ h.pg).1.und (aC (tA _ h.wd).1.und (aC hux.und aF))) aJ ?_
 show Wk _ _ _ _ _ (gQ _ _ (fun _ r=>r=.bool (fZ ns.els fs.els.length os.els.length n v.els g.els)) _)
 rw [hsv.els]at hv1 ⊢
 rw [hsg.els]at hf1 ⊢
 by_cases k0:n=0
 ·subst k0
  cases k1:nE ns.els fs.els.length os.els.length xg with
  | false=>simp +contextual +decide (maxSteps:=1000000) only [↓ wP,wQ,tf,Nat.reduceAdd,wS,reduceCtorEq,c1,c2,c3,c4,c5,c6,c7,c8,c9,cv,cg,hsg.len,hf1,k1];simp +decide only [wT,AV.fld,AV.num,fZ,k1]
  | true=>
  cases k2:dX fs.els.length os.els.length 1 xv with
  | false=>simp +contextual +decide (maxSteps:=1000000) only [↓ wP,wQ,tf,Nat.reduceAdd,wS,reduceCtorEq,c1,c2,c3,c4,c5,c6,c7,c8,c9,cv,cg,hsg.len,hf1,k1,hv1,k2];simp +decide only [wT,AV.fld,AV.num,fZ,k1,k2]
  | true=>
  have e1:xg.length<=40:=by simp only [nE,Bool.and_eq_true,decide_eq_true_eq]at k1;exact k1.1
  have e2:xv.length<=1:=by simp only [dX,Bool.and_eq_true,decide_eq_true_eq]at k2;omega
  have w1:IntKind.i64.wrap (((xg.length:Nat):Int)+((xv.length:Nat):Int))=((xg.length:Nat):Int)+((xv.length:Nat):Int):=IntWalk.i64_in _ (by omega)
  have w2:IntKind.i64.wrap (((xg.length:Nat):Int)-1)=((xg.length:Nat):Int)-1:=IntWalk.i64_in _ (by omega)
  have w3:IntKind.i64.wrap (((xg.length:Nat):Int)-1+((xv.length:Nat):Int))=((xg.length:Nat):Int)-1+((xv.length:Nat):Int):=IntWalk.i64_in _ (by omega)
  by_cases k3:((xg.length:Nat):Int)+((xv.length:Nat):Int) > 0
  ·have m1:(if ((xg.length:Nat):Int)-1+((xv.length:Nat):Int) > 0 then ((xg.length:Nat):Int)-1+((xv.length:Nat):Int) else 0)=((xg.length:Nat):Int)-1+((xv.length:Nat):Int):=by split<;>omega
   obtain ⟨M,hM⟩:∃ M:Nat,(if ((xg.length:Nat):Int)-1+((xv.length:Nat):Int)<((xg.length:Nat):Int) then ((xg.length:Nat):Int)-1+((xv.length:Nat):Int) else ((xg.length:Nat):Int))=(M:Int):=⟨(min (xg.length:Int) (max 0 ((xg.length:Int)-1+xv.length))).toNat,by split<;>omega⟩
   have hMl:M<=xg.length:=by split at hM<;>omega
   have hM':(min (xg.length:Int) (max 0 ((xg.length:Int)-1+xv.length))).toNat=M:=by split at hM<;>omega
   have ho:tS (pg ns fs mm cs) ns [pg ns fs mm cs,g,.int .i64 (M:Nat)]=some (.bool ((xg.take M).all (kC ns.els))):=by
    rw [tS,oZ ⟨rfl,ZA hsg hxg hn0 (by rw [<-hn0.els];exact k1),M,rfl,by rw [hsg.els];exact hMl⟩,hsg.els];rfl
   simp +contextual +decide (maxSteps:=1000000) only [↓ wP,wQ,tf,Nat.reduceAdd,wS,reduceCtorEq,c1,c2,c3,c4,c5,c6,c7,c8,c9,cv,cg,hsg.len,hsv.len,hf1,k1,hv1,k2,w1,w2,w3,k3,aAc,aJq,m1,hM,ho]
   simp +decide only [wT,AV.fld,AV.num,fZ,k1,k2,hM',show (0<((xg.length:Nat):Int)+((xv.length:Nat):Int))=True from eq_true k3]
  ·simp +contextual +decide (maxSteps:=1000000) only [↓ wP,wQ,tf,Nat.reduceAdd,wS,reduceCtorEq,c1,c2,c3,c4,c5,c6,c7,c8,c9,cv,cg,hsg.len,hsv.len,hf1,k1,hv1,k2,w1,k3]
   simp +decide only [wT,AV.fld,AV.num,fZ,k1,k2,show (0<((xg.length:Nat):Int)+((xv.length:Nat):Int))=False from eq_false k3]
 by_cases k1:n=1
 ·subst k1
  by_cases k2:((xg.length:Nat):Int)=0
  ·by_cases k3:((xv.length:Nat):Int)=1
   ·simp +contextual +decide (maxSteps:=1000000) only [↓ wP,wQ,tf,Nat.reduceAdd,wS,reduceCtorEq,c1,c2,c3,c4,c5,c6,c7,c8,c9,cv,cg,hsg.len,hsv.len,k2,k3,hv1];simp +decide only [wT,AV.fld,AV.num,fZ,k2,k3]
   ·simp +contextual +decide (maxSteps:=1000000) only [↓ wP,wQ,tf,Nat.reduceAdd,wS,reduceCtorEq,c1,c2,c3,c4,c5,c6,c7,c8,c9,cv,cg,hsg.len,hsv.len,k2,k3];simp +decide only [wT,AV.fld,AV.num,fZ,k2,k3]
  ·simp +contextual +decide (maxSteps:=1000000) only [↓ wP,wQ,tf,Nat.reduceAdd,wS,reduceCtorEq,c1,c2,c3,c4,c5,c6,c7,c8,c9,cv,cg,hsg.len,hsv.len,k2];simp +decide only [wT,AV.fld,AV.num,fZ,k2]
 by_cases k2:n=2∨n=3∨n=4
 ·rcases k2 with rfl | rfl | rfl
  all_goals
   by_cases k3:((xg.length:Nat):Int)=0
   ·simp +contextual +decide (maxSteps:=1000000) only [↓ wP,wQ,tf,Nat.reduceAdd,wS,reduceCtorEq,c1,c2,c3,c4,c5,c6,c7,c8,c9,cv,cg,hsg.len,hsv.len,k3];simp +decide only [wT,AV.fld,AV.num,fZ,k3]
   ·simp +contextual +decide (maxSteps:=1000000) only [↓ wP,wQ,tf,Nat.reduceAdd,wS,reduceCtorEq,c1,c2,c3,c4,c5,c6,c7,c8,c9,cv,cg,hsg.len,hsv.len,k3];simp +decide only [wT,AV.fld,AV.num,fZ,k3]
 ·have e2:n≠2:=by omega
  have e3:n≠3:=by omega
  have e4:n≠4:=by omega
  simp +contextual +decide (maxSteps:=1000000) only [↓ wP,wQ,tf,Nat.reduceAdd,wS,reduceCtorEq,c1,c2,c3,c4,c5,c6,c7,c8,c9,cv,cg,k0,k1,e2,e3,e4]
  simp +decide only [wT,AV.fld,AV.num,fZ,k0,k1,e2,e3,e4]
end
section
variable {ns fs mm cs os ts us is uu:AV}
def kK (ns cs:List AV) (nf no:Int) (k n:Int) (vs fs:List AV):Bool:=
 if k=6 then fZ ns nf no n vs fs
 else if k=5 then decide (n=0)&&decide ((vs.length:Int)=0)&&decide (0<(fs.length:Int))&&nE ns nf no fs&&(fs.take fs.length).all (kC ns)&&decide (((dM ns ((fs.getD 0 .top).fld 0).num).fld 0).num=26)
 else if (fs.length:Int)=0 then
  (if k=1 then inR n 0 ((cs.length:Int)-1)&&decide ((vs.length:Int)=((cs.getD n.toNat .top).fld 1).num)&&dX nf no 3 vs
  else if k=2 then inR n 0 ((ns.length:Int)-1)&&decide (((dM ns n).fld 0).num=5)&&dX nf no 30 vs
  else if k=3 then decide (n=0)&&decide ((vs.length:Int)=1)&&dX nf no 1 vs
  else if k=4 then decide (n=0)&&dX nf no 4 vs
  else false)
 else false
abbrev aJl (P W:AV) (xn xc:List AV) (nf no:Int):List AV->Option AV:=sg3 (fun a b c=>a=P/\b=W/\sW c) fun _ _ c=>.bool (kK xn xc nf no (c.fld 0).num (c.fld 1).num (c.fld 2).els (c.fld 3).els)
set_option maxHeartbeats 8000000 in
theorem NP (h:RW ns fs mm cs os ts us is uu):Abs.Ok Tryz.prog 33 (aJl (pg ns fs mm cs) (wd os ts us is uu) ns.els cs.els fs.els.length os.els.length):=ok3 fun a b x ⟨ea,eb,hx⟩=>by
 subst ea;subst eb
 have hux:=(tk_ob x hx).1
 obtain ⟨c1,c2,c3,c4,c5,c6,c7,c8,c9⟩:=h.cells
 obtain ⟨_,_,v,g,rfl,⟨k,rfl⟩,⟨n,rfl⟩,hv,hg⟩:=hx
 have ht:NO (pg ns fs mm cs) (wd os ts us is uu) ns.els fs.els.length os.els.length [pg ns fs mm cs,wd os ts us is uu,.agg [.int .i64 k,.int .i64 n,v,g]]=some (.bool (fZ ns.els fs.els.length os.els.length n v.els g.els)):=oZ ⟨rfl,rfl,_,_,_,_,rfl,⟨_,rfl⟩,⟨_,rfl⟩,hv,hg⟩
 have cv:=(tu_vals _ hv).2
 have cg:=(fC _ hg).2
 have hv1:∀ {m:Int},jZ (pg ns fs mm cs) (wd os ts us is uu) fs.els.length os.els.length [pg ns fs mm cs,wd os ts us is uu,v,.int .i64 m]=some (.bool (dX fs.els.length os.els.length m v.els)):=GC ⟨rfl,rfl,hv,_,rfl⟩
 have hf1:qW (pg ns fs mm cs) (wd os ts us is uu) ns.els fs.els.length os.els.length [pg ns fs mm cs,wd os ts us is uu,g]=some (.bool (nE ns.els fs.els.length os.els.length g.els)):=oZ ⟨rfl,rfl,hg⟩
 obtain ⟨xv,hsv,hxv⟩:=hv
 obtain ⟨xg,hsg,hxg⟩:=hg
 obtain ⟨xn,hn0,hnx⟩:=h.ns
 obtain ⟨xc,hc0,hcx⟩:=h.cs
 have w1:=bT hn0.2
 have w2:=bT hc0.2
 refine aH (L:=[ent 31 eZ,ent 69 (NO (pg ns fs mm cs) (wd os ts us is uu) ns.els fs.els.length os.els.length),ent 70 (qW (pg ns fs mm cs) (wd os ts us is uu) ns.els fs.els.length os.els.length),ent 72 (jZ (pg ns fs mm cs) (wd os ts us is uu) fs.els.length os.els.length),ent 71 (tS (pg ns fs mm cs) ns)])
  (elist_cons rIn6_ok.ent (elist_cons (ZB h).ent (elist_cons (AS h).ent (elist_cons (tR h).ent (elist_cons (IZ h.ns h.fs h.mm h.cs).ent aG))))) (fun r=>(bif Nat.beq r 4 then [20,29] else bif Nat.beq r 9 then [6,25] else [],[])) (by kernel_rfl) Tryz.func33 Tryz.ntmps33 Tryz.results33 rfl rfl (aC (dG _ h.pg).1.und (aC (tA _ h.wd).1.und (aC hux.und aF))) aJ ?_
 show Wk _ _ _ _ _ (gQ _ _ (fun _ r=>r=.bool (kK ns.els cs.els fs.els.length os.els.length k n v.els g.els)) _)
 rw [hsv.els]at hv1 ht ⊢
 rw [hsg.els]at hf1 ht ⊢
 by_cases k6:k=6
 ·subst k6
  simp +contextual +decide (maxSteps:=1000000) only [↓ wP,wQ,tf,Nat.reduceAdd,wS,reduceCtorEq,c1,c2,c3,c4,c5,c6,c7,c8,c9,cv,cg,ht]
  simp +decide only [wT,AV.fld,AV.num,kK]
 by_cases k5:k=5
 ·subst k5
  by_cases g2:n=0
  ·by_cases g3:((xv.length:Nat):Int)=0
   ·by_cases g1:((xg.length:Nat):Int) > 0
    ·have g1':(0<((xg.length:Nat):Int))=True:=eq_true g1
     cases g4:nE ns.els fs.els.length os.els.length xg with
     | false=>simp +contextual +decide (maxSteps:=1000000) only [↓ wP,wQ,tf,Nat.reduceAdd,wS,reduceCtorEq,c1,c2,c3,c4,c5,c6,c7,c8,c9,cv,cg,hsg.len,hsg.stab,hsv.len,hsv.stab,g1,g2,g3,hf1,g4];simp +decide only [wT,AV.fld,AV.num,kK,g4]
     | true=>
       have ho:tS (pg ns fs mm cs) ns [pg ns fs mm cs,g,.int .i64 (xg.length:Nat)]=some (.bool ((xg.take xg.length).all (kC ns.els))):=by
        rw [tS,oZ ⟨rfl,ZA hsg hxg hn0 (by rw [<-hn0.els];exact g4),xg.length,rfl,by rw [hsg.els];exact Nat.le_refl _⟩,hsg.els];rfl
       cases g5:(xg.take xg.length).all (kC ns.els) with
       | false=>simp +contextual +decide (maxSteps:=1000000) only [↓ wP,wQ,tf,Nat.reduceAdd,wS,reduceCtorEq,c1,c2,c3,c4,c5,c6,c7,c8,c9,cv,cg,hsg.len,hsg.stab,hsv.len,hsv.stab,g1,g2,g3,hf1,g4,ho,g5];simp +decide only [wT,AV.fld,AV.num,kK,g4,g5]
       | true=>
         have g0:inR 0 0 ((xg.length:Int)-1)=true:=by simp only [inR,Bool.and_eq_true,decide_eq_true_eq];omega
         obtain ⟨y,hD,hym,hy,hix,hpf,_,_⟩:=lO tk_fr hxg g0
         have hall:=g4
         simp only [nE,Bool.and_eq_true]at hall
         have hin:=uR (List.all_eq_true.1 hall.2 y hym)
         obtain ⟨_,_,_,rfl,⟨m,rfl⟩,q1,q2⟩:=hD
         have e1:=(tu_vals _ q1).2
         have e2:=(tu_vals _ q2).2
         rw [hn0.els]at hin
         obtain ⟨z,hDz,_,hz,hix2,hpf2,_,_⟩:=lO tk_node hnx hin
         obtain ⟨_,_,_,_,rfl,⟨op,rfl⟩,⟨m',rfl⟩,q3,q4⟩:=hDz
         have e3:=(aR _ q3).2
         have e4:=(eK _ q4).2
         have hix2':∀ {q:IntKind} {d:Option AV},tU (some 4) xn (.int q m) d=some (.pf (.agg [.int .i64 op,.int .i64 m',_,_])):=hix2
         simp +contextual +decide (maxSteps:=1000000) only [↓ wP,wQ,tf,Nat.reduceAdd,wS,reduceCtorEq,c1,c2,c3,c4,c5,c6,c7,c8,c9,cv,cg,hsg.len,hsg.stab,hsg.idx,hsv.len,hsv.stab,g1,g2,g3,hf1,g4,ho,g5,hix,hpf,hn0.idx,hix2',hpf2,e1,e2,e3,e4]
         have g4':nE xn fs.els.length os.els.length xg=true:=by rw [<-hn0.els];exact g4
         have g5':(xg.take xg.length).all (kC xn)=true:=by rw [<-hn0.els];exact g5
         have hy':xg.getD 0 .top=.agg [.int .i64 m,_,_]:=hy
         have hz':xn.getD m.toNat .top=.agg [.int .i64 op,.int .i64 m',_,_]:=hz
         simp +decide only [wT,AV.fld,AV.num,kK,g1',g2,g3,g4',g5',hn0.els,dM,hy',hz']
    ·have g1':(0<((xg.length:Nat):Int))=False:=eq_false g1
     simp +contextual +decide (maxSteps:=1000000) only [↓ wP,wQ,tf,Nat.reduceAdd,wS,reduceCtorEq,c1,c2,c3,c4,c5,c6,c7,c8,c9,cv,cg,hsg.len,hsg.stab,hsv.len,hsv.stab,g1,g2,g3];simp +decide only [wT,AV.fld,AV.num,kK,g1']
   ·simp +contextual +decide (maxSteps:=1000000) only [↓ wP,wQ,tf,Nat.reduceAdd,wS,reduceCtorEq,c1,c2,c3,c4,c5,c6,c7,c8,c9,cv,cg,hsg.len,hsg.stab,hsv.len,hsv.stab,g2,g3];simp +decide only [wT,AV.fld,AV.num,kK,g3]
  ·simp +contextual +decide (maxSteps:=1000000) only [↓ wP,wQ,tf,Nat.reduceAdd,wS,reduceCtorEq,c1,c2,c3,c4,c5,c6,c7,c8,c9,cv,cg,hsg.len,hsg.stab,g2];simp +decide only [wT,AV.fld,AV.num,kK,g2]
 by_cases g1:((xg.length:Nat):Int)=0
 ·by_cases k1:k=1
  ·subst k1
   cases g2:inR n 0 ((xc.length:Int)-1) with
   | false=>simp +contextual +decide (maxSteps:=1000000) only [↓ wP,wQ,tf,Nat.reduceAdd,wS,reduceCtorEq,c1,c2,c3,c4,c5,c6,c7,c8,c9,cv,cg,hsg.len,g1,hc0.len,hc0.stab,w2,aI,g2];simp +decide only [wT,AV.fld,AV.num,kK,hc0.els,g1,g2]
   | true=>
     obtain ⟨y,hD,_,hy,hix,hpf,_,_⟩:=lO tk_con hcx g2
     obtain ⟨_,_,rfl,⟨b,rfl,_⟩,⟨m,rfl⟩⟩:=hD
     by_cases g3:((xv.length:Nat):Int)=m
     ·simp +contextual +decide (maxSteps:=1000000) only [↓ wP,wQ,tf,Nat.reduceAdd,wS,reduceCtorEq,c1,c2,c3,c4,c5,c6,c7,c8,c9,cv,cg,hsg.len,g1,hc0.len,hc0.idx,hc0.stab,w2,aI,g2,hix,hpf,hsv.len,hsv.stab,g3,hv1]
      simp +decide only [wT,AV.fld,AV.num,kK,hc0.els,hy,g1,g2,g3]
     ·simp +contextual +decide (maxSteps:=1000000) only [↓ wP,wQ,tf,Nat.reduceAdd,wS,reduceCtorEq,c1,c2,c3,c4,c5,c6,c7,c8,c9,cv,cg,hsg.len,g1,hc0.len,hc0.idx,hc0.stab,w2,aI,g2,hix,hpf,hsv.len,hsv.stab,g3]
      simp +decide only [wT,AV.fld,AV.num,kK,hc0.els,hy,g1,g2,g3]
  by_cases k2:k=2
  ·subst k2
   cases g2:inR n 0 ((xn.length:Int)-1) with
   | false=>simp +contextual +decide (maxSteps:=1000000) only [↓ wP,wQ,tf,Nat.reduceAdd,wS,reduceCtorEq,c1,c2,c3,c4,c5,c6,c7,c8,c9,cv,cg,hsg.len,g1,hn0.len,hn0.stab,w1,aI,g2];simp +decide only [wT,AV.fld,AV.num,kK,hn0.els,g1,g2]
   | true=>
     obtain ⟨y,hD,_,hy,hix,hpf,_,_⟩:=lO tk_node hnx g2
     obtain ⟨_,_,_,_,rfl,⟨op,rfl⟩,⟨m,rfl⟩,q1,q2⟩:=hD
     have e1:=(aR _ q1).2
     have e2:=(eK _ q2).2
     by_cases g3:op=5
     ·simp +contextual +decide (maxSteps:=1000000) only [↓ wP,wQ,tf,Nat.reduceAdd,wS,reduceCtorEq,c1,c2,c3,c4,c5,c6,c7,c8,c9,cv,cg,hsg.len,g1,hn0.len,hn0.idx,hn0.stab,w1,aI,g2,hix,hpf,e1,e2,g3,hv1]
      simp +decide only [wT,AV.fld,AV.num,kK,hn0.els,dM,hy,g1,g2,g3]
     ·simp +contextual +decide (maxSteps:=1000000) only [↓ wP,wQ,tf,Nat.reduceAdd,wS,reduceCtorEq,c1,c2,c3,c4,c5,c6,c7,c8,c9,cv,cg,hsg.len,g1,hn0.len,hn0.idx,hn0.stab,w1,aI,g2,hix,hpf,e1,e2,g3]
      simp +decide only [wT,AV.fld,AV.num,kK,hn0.els,dM,hy,g1,g2,g3]
  by_cases k3:k=3
  ·subst k3
   by_cases g2:n=0
   ·by_cases g3:((xv.length:Nat):Int)=1
    ·simp +contextual +decide (maxSteps:=1000000) only [↓ wP,wQ,tf,Nat.reduceAdd,wS,reduceCtorEq,c1,c2,c3,c4,c5,c6,c7,c8,c9,cv,cg,hsg.len,g1,hsv.len,g2,g3,hv1];simp +decide only [wT,AV.fld,AV.num,kK,g1,g3]
    ·simp +contextual +decide (maxSteps:=1000000) only [↓ wP,wQ,tf,Nat.reduceAdd,wS,reduceCtorEq,c1,c2,c3,c4,c5,c6,c7,c8,c9,cv,cg,hsg.len,g1,hsv.len,g2,g3];simp +decide only [wT,AV.fld,AV.num,kK,g1,g3]
   ·simp +contextual +decide (maxSteps:=1000000) only [↓ wP,wQ,tf,Nat.reduceAdd,wS,reduceCtorEq,c1,c2,c3,c4,c5,c6,c7,c8,c9,cv,cg,hsg.len,g1,g2];simp +decide only [wT,AV.fld,AV.num,kK,g1,g2]
  by_cases k4:k=4
  ·subst k4
   by_cases g2:n=0
   ·simp +contextual +decide (maxSteps:=1000000) only [↓ wP,wQ,tf,Nat.reduceAdd,wS,reduceCtorEq,c1,c2,c3,c4,c5,c6,c7,c8,c9,cv,cg,hsg.len,g1,g2,hv1];simp +decide only [wT,AV.fld,AV.num,kK,g1]
   ·simp +contextual +decide (maxSteps:=1000000) only [↓ wP,wQ,tf,Nat.reduceAdd,wS,reduceCtorEq,c1,c2,c3,c4,c5,c6,c7,c8,c9,cv,cg,hsg.len,g1,g2];simp +decide only [wT,AV.fld,AV.num,kK,g1,g2]
  simp +contextual +decide (maxSteps:=1000000) only [↓ wP,wQ,tf,Nat.reduceAdd,wS,reduceCtorEq,c1,c2,c3,c4,c5,c6,c7,c8,c9,cv,cg,hsg.len,g1,k1,k2,k3,k4,k5,k6]
  simp +decide only [wT,AV.fld,AV.num,kK,k1,k2,k3,k4,k5,k6,g1]
 ·simp +contextual +decide (maxSteps:=1000000) only [↓ wP,wQ,tf,Nat.reduceAdd,wS,reduceCtorEq,c1,c2,c3,c4,c5,c6,c7,c8,c9,cv,cg,hsg.len,g1,k5,k6]
  simp +decide only [wT,AV.fld,AV.num,kK,k5,k6,g1]
end
end
end Go.Proofs.YthakciolcdlphaaGreat
