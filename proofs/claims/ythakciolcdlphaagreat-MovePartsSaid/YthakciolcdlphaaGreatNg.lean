/-
  The program of meanings: objects.
-/
import Derived.Test.YthakciolcdlphaaGreatNc
set_option linter.unusedVariables false
set_option linter.unusedSimpArgs false
namespace Go.Proofs.YthakciolcdlphaaGreat
open Go.Abs Go Go.Abs.TryzF
noncomputable section
set_option maxRecDepth 10000
section
variable {ns fs mm cs os ts us is uu:AV}
def ZC (ns fs os r:AV):List AV->Option AV:=wW (fun a b=>a=r/\sW b) fun _ b=>.bool (kP ns.els fs.els.length os.els.length (b.fld 1).num (b.fld 2).els (b.fld 3).els)
theorem ZD (h:RW ns fs mm cs os ts us is uu):Abs.Ok Tryz.prog 233 (ZC ns fs os (rn ns fs mm cs os ts us is uu)):=
 ok2 fun a b ⟨e,hb⟩=>by subst e;obtain ⟨_,_,v,g,rfl,⟨k,rfl⟩,⟨n,rfl⟩,hv,hg⟩:=hb;exact aFa h k n v g hv hg
theorem ZE {ns fs os r v g:AV} {k n:Int} (hv:kB v) (hg:AX g):ZC ns fs os r [r,.agg [.int .i64 k,.int .i64 n,v,g]]=some (.bool (kP ns.els fs.els.length os.els.length n v.els g.els)):=
 sg2_eq ⟨rfl,_,_,_,_,rfl,⟨_,rfl⟩,⟨_,rfl⟩,hv,hg⟩
theorem lO {k:Nat} {D:AV->Prop} {xs:List AV} (hD:Tk k D) (hx:∀ x∈xs,D x) {n:Int} (h:inR n 0 ((xs.length:Int)-1)=true):
 ∃ y,D y/\y∈xs/\xs.getD n.toNat .top=y/\(∀ {q:IntKind} {d:Option AV},tU (some k) xs (.int q n) d=some (.pf y))/\(∀ {d:Option AV},UO (some (some k)) y d=some y)/\0<=n/\n.toNat<xs.length:=by
 simp only [inR,Bool.and_eq_true,decide_eq_true_eq]at h
 have hlt:n.toNat<xs.length:=by omega
 have hg:=List.getElem?_eq_getElem hlt
 have hm:=List.getElem_mem hlt
 exact ⟨_,hx _ hm,hm,by simp [List.getD_eq_getElem?_getD,hg],fun {q d}=>GD h.1 hg (hD.len (hx _ hm)),fun {d}=>hD.pf (hx _ hm),h.1,hlt⟩
set_option maxHeartbeats 4000000 in
theorem TY (h:RW ns fs mm cs os ts us is uu) (k n:Int) (vs gs:AV) (hv:kB vs) (hg:AX gs):
 Abs.Returns Tryz.prog 162 [rn ns fs mm cs os ts us is uu,.agg [.int .i64 k,.int .i64 n,vs,gs]] (.bool (kA ns.els cs.els fs.els.length os.els.length k n vs.els gs.els)):=by
 have huo:UnderE 0 (.agg [.int .i64 k,.int .i64 n,vs,gs]):=(tk_ob _ ⟨_,_,_,_,rfl,⟨_,rfl⟩,⟨_,rfl⟩,hv,hg⟩).1
 have cv:=(tu_vals _ hv).2
 have cg:=(fC _ hg).2
 have ht:=ZE (ns:=ns) (fs:=fs) (os:=os) (r:=rn ns fs mm cs os ts us is uu) (k:=k) (n:=n) hv hg
 have a1:sC (oX (rn ns fs mm cs os ts us is uu)) (jC fs.els.length os.els.length) [vs,oX (rn ns fs mm cs os ts us is uu)]=_:=sg2_eq ⟨hv,rfl⟩
 obtain ⟨xv,hsv,_⟩:=hv
 have hf:=AW (ns:=ns) (fs:=fs) (os:=os) (r:=rn ns fs mm cs os ts us is uu) (l:=0) hg (by omega) (by omega)
 obtain ⟨xg,hsg,hgx⟩:=hg
 obtain ⟨xn,hn,hnx⟩:=h.ns
 obtain ⟨xc,hc,hcx⟩:=h.cs
 obtain ⟨c1,c2,c3,c4,c5,c6,c7,c8,c9⟩:=h.cells
 have w1:=bT hn.2
 have w2:=bT hc.2
 have hl:=hsv.2
 rw [hsv.els]at ht a1 ⊢
 rw [hsg.els]at ht hf ⊢
 refine aH (L:=[ent 107 eZ,ent 230 (sC (oX (rn ns fs mm cs os ts us is uu)) (jC fs.els.length os.els.length)),ent 232 (zC ns fs os (rn ns fs mm cs os ts us is uu)),ent 233 (ZC ns fs os (rn ns fs mm cs os ts us is uu))])
  (elist_cons within_ok.ent (elist_cons (QS h).ent (elist_cons (AU h).ent (elist_cons (ZD h).ent aG)))) (fun r=>(bif Nat.beq r 6 then [11] else bif Nat.beq r 8 then [11] else bif Nat.beq r 14 then [19] else [],[])) (by kernel_rfl) Tryz.func162 Tryz.ntmps162 Tryz.results162 rfl rfl (aC h.und.und (aC huo.und aF)) aJ ?_
 cases kv:xv.all (jC fs.els.length os.els.length) with
 | false=>simp +contextual +decide (maxSteps:=1000000) only [↓ wP,wQ,tf,Nat.reduceAdd,wS,reduceCtorEq,cv,cg,a1,kv];simp +decide only [wT,AV.fld,AV.num,kA,kv]
 | true=>
 by_cases k1:k=1
 ·subst k1
  by_cases g1:((xg.length:Nat):Int)=0
  ·cases g2:inR n 0 ((xc.length:Int)-1) with
   | false=>simp +contextual +decide (maxSteps:=1000000) only [↓ wP,wQ,tf,Nat.reduceAdd,wS,reduceCtorEq,cv,cg,a1,kv,hsg.len,hsg.stab,g1,hc.len,hc.stab,w2,aI,g2,c1,c2,c3,c4,c5,c6,c7,c8,c9];simp +decide only [wT,AV.fld,AV.num,kA,kv,hc.els,g1,g2]
   | true=>
     obtain ⟨y,hD,_,hy,hix,hpf,_,_⟩:=lO tk_con hcx g2
     obtain ⟨_,_,rfl,⟨b,rfl,_⟩,⟨m,rfl⟩⟩:=hD
     simp +contextual +decide (maxSteps:=1000000) only [↓ wP,wQ,tf,Nat.reduceAdd,wS,reduceCtorEq,cv,cg,a1,kv,hsg.len,hsg.stab,g1,hc.len,hc.stab,hc.idx,w2,aI,g2,hix,hpf,hsv.len,hsv.stab,c1,c2,c3,c4,c5,c6,c7,c8,c9]
     simp +decide only [wT,AV.fld,AV.num,kA,kv,hc.els,hy,g1,g2]
  ·simp +contextual +decide (maxSteps:=1000000) only [↓ wP,wQ,tf,Nat.reduceAdd,wS,reduceCtorEq,cv,cg,a1,kv,hsg.len,hsg.stab,g1];simp +decide only [wT,AV.fld,AV.num,kA,kv,g1]
 by_cases k2:k=2
 ·subst k2
  by_cases g1:((xg.length:Nat):Int)=0
  ·cases g2:inR n 0 ((xn.length:Int)-1) with
   | false=>simp +contextual +decide (maxSteps:=1000000) only [↓ wP,wQ,tf,Nat.reduceAdd,wS,reduceCtorEq,cv,cg,a1,kv,hsg.len,hsg.stab,g1,hn.len,hn.stab,w1,aI,g2,c1,c2,c3,c4,c5,c6,c7,c8,c9];simp +decide only [wT,AV.fld,AV.num,kA,kv,hn.els,g1,g2]
   | true=>
     obtain ⟨y,hD,_,hy,hix,hpf,_,_⟩:=lO tk_node hnx g2
     obtain ⟨_,_,_,_,rfl,⟨op,rfl⟩,⟨m,rfl⟩,q1,q2⟩:=hD
     have e1:=(aR _ q1).2
     have e2:=(eK _ q2).2
     by_cases g3:op=5
     ·simp +contextual +decide (maxSteps:=1000000) only [↓ wP,wQ,tf,Nat.reduceAdd,wS,reduceCtorEq,cv,cg,a1,kv,hsg.len,hsg.stab,g1,hn.len,hn.stab,hn.idx,w1,aI,g2,hix,hpf,hsv.len,hsv.stab,c1,c2,c3,c4,c5,c6,c7,c8,c9,e1,e2,g3]
      simp +decide only [wT,AV.fld,AV.num,kA,kv,hn.els,dM,hy,g1,g2,g3]
     ·simp +contextual +decide (maxSteps:=1000000) only [↓ wP,wQ,tf,Nat.reduceAdd,wS,reduceCtorEq,cv,cg,a1,kv,hsg.len,hsg.stab,g1,hn.len,hn.stab,hn.idx,w1,aI,g2,hix,hpf,hsv.len,hsv.stab,c1,c2,c3,c4,c5,c6,c7,c8,c9,e1,e2,g3]
      simp +decide only [wT,AV.fld,AV.num,kA,kv,hn.els,dM,hy,g1,g2,g3]
  ·simp +contextual +decide (maxSteps:=1000000) only [↓ wP,wQ,tf,Nat.reduceAdd,wS,reduceCtorEq,cv,cg,a1,kv,hsg.len,hsg.stab,g1];simp +decide only [wT,AV.fld,AV.num,kA,kv,g1]
 by_cases k3:k=3
 ·subst k3
  by_cases g1:((xg.length:Nat):Int)=0
  ·by_cases g2:n=0
   ·simp +contextual +decide (maxSteps:=1000000) only [↓ wP,wQ,tf,Nat.reduceAdd,wS,reduceCtorEq,cv,cg,a1,kv,hsg.len,hsg.stab,g1,g2,hsv.len,hsv.stab];simp +decide only [wT,AV.fld,AV.num,kA,kv,g1]
   ·simp +contextual +decide (maxSteps:=1000000) only [↓ wP,wQ,tf,Nat.reduceAdd,wS,reduceCtorEq,cv,cg,a1,kv,hsg.len,hsg.stab,g1,g2];simp +decide only [wT,AV.fld,AV.num,kA,kv,g2]
  ·simp +contextual +decide (maxSteps:=1000000) only [↓ wP,wQ,tf,Nat.reduceAdd,wS,reduceCtorEq,cv,cg,a1,kv,hsg.len,hsg.stab,g1];simp +decide only [wT,AV.fld,AV.num,kA,kv,g1]
 by_cases k4:k=4
 ·subst k4
  by_cases g1:((xg.length:Nat):Int)=0
  ·by_cases g2:n=0
   ·simp +contextual +decide (maxSteps:=1000000) only [↓ wP,wQ,tf,Nat.reduceAdd,wS,reduceCtorEq,cv,cg,a1,kv,hsg.len,hsg.stab,g1,g2,hsv.len,hsv.stab];simp +decide only [wT,AV.fld,AV.num,kA,kv,g1]
   ·simp +contextual +decide (maxSteps:=1000000) only [↓ wP,wQ,tf,Nat.reduceAdd,wS,reduceCtorEq,cv,cg,a1,kv,hsg.len,hsg.stab,g1,g2];simp +decide only [wT,AV.fld,AV.num,kA,kv,g2]
  ·simp +contextual +decide (maxSteps:=1000000) only [↓ wP,wQ,tf,Nat.reduceAdd,wS,reduceCtorEq,cv,cg,a1,kv,hsg.len,hsg.stab,g1];simp +decide only [wT,AV.fld,AV.num,kA,kv,g1]
 by_cases k5:k=5
 ·subst k5
  by_cases g2:n=0
  ·by_cases g3:((xv.length:Nat):Int)=0
   ·by_cases g1:((xg.length:Nat):Int) > 0
    ·cases g4:eJ ns.els fs.els.length os.els.length xg 0 with
     | false=>simp +contextual +decide (maxSteps:=1000000) only [↓ wP,wQ,tf,Nat.reduceAdd,wS,reduceCtorEq,cv,cg,a1,kv,hsg.len,hsg.stab,hsv.len,hsv.stab,g1,g2,g3,hf,g4];simp +decide only [wT,AV.fld,AV.num,kA,g4]
     | true=>
       have g0:inR 0 0 ((xg.length:Int)-1)=true:=by simp only [inR,Bool.and_eq_true,decide_eq_true_eq];omega
       obtain ⟨y,hD,hym,hy,hix,hpf,_,_⟩:=lO tk_fr hgx g0
       have hall:=g4
       simp only [eJ,nE,Bool.and_eq_true]at hall
       have hin:=uR (List.all_eq_true.1 hall.1.2 y hym)
       obtain ⟨_,_,_,rfl,⟨m,rfl⟩,q1,q2⟩:=hD
       have e1:=(tu_vals _ q1).2
       have e2:=(tu_vals _ q2).2
       rw [hn.els]at hin
       obtain ⟨z,hDz,_,hz,hix2,hpf2,_,_⟩:=lO tk_node hnx hin
       obtain ⟨_,_,_,_,rfl,⟨op,rfl⟩,⟨m',rfl⟩,q3,q4⟩:=hDz
       have e3:=(aR _ q3).2
       have e4:=(eK _ q4).2
       have hix2':∀ {q:IntKind} {d:Option AV},tU (some 4) xn (.int q m) d=some (.pf (.agg [.int .i64 op,.int .i64 m',_,_])):=hix2
       simp +contextual +decide (maxSteps:=1000000) only [↓ wP,wQ,tf,Nat.reduceAdd,wS,reduceCtorEq,cv,cg,a1,kv,hsg.len,hsg.stab,hsg.idx,hsv.len,hsv.stab,g1,g2,g3,hf,g4,hix,hpf,hn.idx,hix2',hpf2,c1,c2,c3,c4,c5,c6,c7,c8,c9,e1,e2,e3,e4]
       have g4':eJ xn fs.els.length os.els.length xg 0=true:=by rw [<-hn.els];exact g4
       have hy':xg.getD 0 .top=.agg [.int .i64 m,_,_]:=hy
       have hz':xn.getD m.toNat .top=.agg [.int .i64 op,.int .i64 m',_,_]:=hz
       simp +decide only [wT,AV.fld,AV.num,kA,kv,g1,g2,g3,g4',hn.els,dM,hy',hz']
    ·simp +contextual +decide (maxSteps:=1000000) only [↓ wP,wQ,tf,Nat.reduceAdd,wS,reduceCtorEq,cv,cg,a1,kv,hsg.len,hsg.stab,hsv.len,hsv.stab,g1,g2,g3];simp +decide only [wT,AV.fld,AV.num,kA,g1,show (0<((xg.length:Nat):Int))=False from eq_false g1]
   ·simp +contextual +decide (maxSteps:=1000000) only [↓ wP,wQ,tf,Nat.reduceAdd,wS,reduceCtorEq,cv,cg,a1,kv,hsg.len,hsg.stab,hsv.len,hsv.stab,g2,g3];simp +decide only [wT,AV.fld,AV.num,kA,g3]
  ·simp +contextual +decide (maxSteps:=1000000) only [↓ wP,wQ,tf,Nat.reduceAdd,wS,reduceCtorEq,cv,cg,a1,kv,hsg.len,hsg.stab,g2];simp +decide only [wT,AV.fld,AV.num,kA,g2]
 by_cases k6:k=6
 ·subst k6
  simp +contextual +decide (maxSteps:=1000000) only [↓ wP,wQ,tf,Nat.reduceAdd,wS,reduceCtorEq,cv,cg,a1,kv,hsg.len,ht]
  simp +decide only [wT,AV.fld,AV.num,kA,kv]
 simp +contextual +decide (maxSteps:=1000000) only [↓ wP,wQ,tf,Nat.reduceAdd,wS,reduceCtorEq,cv,cg,a1,kv,hsg.len,k1,k2,k3,k4,k5,k6]
 simp +decide only [wT,AV.fld,AV.num,kA,k1,k2,k3,k4,k5,k6]
end
theorem rIn6_ok:Abs.Ok Tryz.prog 31 eZ:=by
 intro args v hg
 unfold eZ at hg
 split at hg<;>cases hg
 rename_i n l h
 refine aH (L:=[]) aG aN (by kernel_rfl) Tryz.func31 Tryz.ntmps31 Tryz.results31 rfl rfl (aC aT (aC aT (aC aT aF))) aJ ?_
 by_cases h1:l<=n
 ·simp +contextual +decide (maxSteps:=1000000) only [↓ wP,wQ,tf,Nat.reduceAdd,wS,reduceCtorEq,h1]
  simp [inR,h1]
 ·simp +contextual +decide (maxSteps:=1000000) only [↓ wP,wQ,tf,Nat.reduceAdd,wS,reduceCtorEq,h1]
  simp [inR,h1]
set_option maxHeartbeats 4000000 in
theorem rAsks_ok:Abs.Ok Tryz.prog 122 (tB dP fun n=>.int .i64 (dQ n)):=yR fun x hx=>by
 have hux:=(tk_node x hx).1
 obtain ⟨_,_,ki,pa,rfl,⟨k,rfl⟩,⟨n,rfl⟩,hk,hp⟩:=hx
 have ck:=(aR _ hk).2
 have cp:=(eK _ hp).2
 obtain ⟨xs,hks,_⟩:=hk
 refine aH (L:=[]) aG aN (by kernel_rfl) Tryz.func122 Tryz.ntmps122 Tryz.results122 rfl rfl (aC hux.und aF) aT ?_
 rcases AT k with rfl | rfl | rfl | rfl | rfl | rfl | rfl | rfl | rfl | rfl | rfl | rfl | rfl | rfl | rfl | rfl | rfl | rfl | rfl | h
 case inr.inr.inr.inr.inr.inr.inr.inr.inl=>simp +contextual +decide (maxSteps:=1000000) only [↓ wP,wQ,tf,Nat.reduceAdd,wS,reduceCtorEq,ck,cp,hks.len];simp [dQ,AV.fld,AV.num,hks.els]
 case inr.inr.inr.inr.inr.inr.inr.inr.inr.inr.inr.inr.inr.inr.inr.inr.inr.inr.inr=>simp +contextual +decide (maxSteps:=1000000) only [↓ wP,wQ,tf,Nat.reduceAdd,wS,reduceCtorEq,ck,cp,h];simp [dQ,AV.fld,AV.num,h]
 all_goals simp +contextual +decide (maxSteps:=1000000) only [↓ wP,wQ,tf,Nat.reduceAdd,wS,reduceCtorEq,ck,cp];rfl
section
variable {ns fs mm cs os ts us is uu:AV}
abbrev pg (ns fs mm cs:AV):AV:=.agg [ns,fs,mm,cs]
abbrev wd (os ts us is uu:AV):AV:=.agg [os,ts,us,is,uu]
theorem RW.pg (h:RW ns fs mm cs os ts us is uu):gY (pg ns fs mm cs):=⟨_,_,_,_,rfl,h.ns,h.fs,h.mm,h.cs⟩
theorem RW.wd (h:RW ns fs mm cs os ts us is uu):TWd (wd os ts us is uu):=⟨_,_,_,_,_,rfl,h.os,h.ts,h.us,h.is,h.uu⟩
abbrev FW (P W:AV) (nf no:Int):List AV->Option AV:=sg3 (fun a b c=>a=P/\b=W/\uS c) fun _ _ c=>.bool (jC nf no c)
set_option maxHeartbeats 1000000 in
theorem TZ (h:RW ns fs mm cs os ts us is uu):Abs.Ok Tryz.prog 123 (FW (pg ns fs mm cs) (wd os ts us is uu) fs.els.length os.els.length):=ok3 fun a b x ⟨ea,eb,hx⟩=>by
 subst ea;subst eb
 have hux:=(tk_val x hx).1
 obtain ⟨_,_,rfl,⟨k,rfl⟩,⟨n,rfl⟩⟩:=hx
 obtain ⟨xf,hf,_⟩:=h.fs
 obtain ⟨xo,ho,_⟩:=h.os
 obtain ⟨c1,c2,c3,c4,c5,c6,c7,c8,c9⟩:=h.cells
 have w1:=bT hf.2
 have w2:=bT ho.2
 refine aH (L:=[ent 31 eZ]) (elist_cons rIn6_ok.ent aG) aN (by kernel_rfl) Tryz.func123 Tryz.ntmps123 Tryz.results123 rfl rfl (aC (dG _ h.pg).1.und (aC (tA _ h.wd).1.und (aC hux.und aF))) aJ ?_
 rw [hf.els,ho.els,JA]
 by_cases h1:k=1
 ·subst h1;simp +contextual +decide (maxSteps:=1000000) only [↓ wP,wQ,tf,Nat.reduceAdd,wS,reduceCtorEq,aI,c1,c2,c3,c4,c5,c6,c7,c8,c9];rfl
 by_cases h2:k=2
 ·subst h2;simp +contextual +decide (maxSteps:=1000000) only [↓ wP,wQ,tf,Nat.reduceAdd,wS,reduceCtorEq,aI,c1,c2,c3,c4,c5,c6,c7,c8,c9]
 by_cases h3:k=3
 ·subst h3;simp +contextual +decide (maxSteps:=1000000) only [↓ wP,wQ,tf,Nat.reduceAdd,wS,reduceCtorEq,aI,c1,c2,c3,c4,c5,c6,c7,c8,c9]
 by_cases h4:k=4
 ·subst h4;simp +contextual +decide (maxSteps:=1000000) only [↓ wP,wQ,tf,Nat.reduceAdd,wS,reduceCtorEq,aI,hf.len,w1,c1,c2,c3,c4,c5,c6,c7,c8,c9]
 by_cases h5:k=5
 ·subst h5;simp +contextual +decide (maxSteps:=1000000) only [↓ wP,wQ,tf,Nat.reduceAdd,wS,reduceCtorEq,aI,ho.len,w2,c1,c2,c3,c4,c5,c6,c7,c8,c9]
 simp +contextual +decide (maxSteps:=1000000) only [↓ wP,wQ,tf,Nat.reduceAdd,wS,reduceCtorEq,h1,h2,h3,h4,h5,c1,c2,c3,c4,c5,c6,c7,c8,c9]
abbrev jZ (P W:AV) (nf no:Int):List AV->Option AV:=sg4 (fun a b c d=>a=P/\b=W/\kB c/\cI d) fun _ _ c d=>.bool (dX nf no d.num c.els)
theorem tR (h:RW ns fs mm cs os ts us is uu):Abs.Ok Tryz.prog 72 (jZ (pg ns fs mm cs) (wd os ts us is uu) fs.els.length os.els.length):=ok4 fun a b x y ⟨ea,eb,hx,hy⟩=>by
 subst ea;subst eb
 obtain ⟨most,rfl⟩:=hy
 have hux:=(tu_vals x hx).1
 obtain ⟨c1,c2,c3,c4,c5,c6,c7,c8,c9⟩:=h.cells
 obtain ⟨xs,hs,hxs⟩:=hx
 have hl:=hs.2
 refine aH (L:=[ent 123 (FW (pg ns fs mm cs) (wd os ts us is uu) fs.els.length os.els.length)]) (elist_cons (TZ h).ent aG) (fun r=>(bif Nat.beq r 4 then [6] else [],[])) (by kernel_rfl) Tryz.func72 Tryz.ntmps72 Tryz.results72 rfl rfl (aC (dG _ h.pg).1.und (aC (tA _ h.wd).1.und (aC hux.und (aC aT aF)))) aJ ?_
 rw [hs.els,show (AV.int .i64 most).num=most from rfl]
 simp +contextual +decide (maxSteps:=1000000) only [↓ wP,wQ,tf,Nat.reduceAdd,wS,reduceCtorEq,c1,c2,c3,c4,c5,c6,c7,c8,c9]
 refine aQ (fun i e=>∃ t n low o,e=⟨33,none,72,t,[],⟨n,low,o⟩,.no⟩/\t.val 2=x/\t.val 3=.int .i64 most/\t.val 4=.ptr 0 0 0/\t.val 5=.ptr 1 0 0/\t.val 9=.int .i64 (i:Nat)/\o.get 0=some (aU 0 [ns,fs,mm,cs])/\o.get 1=some (aU 0 [os,ts,us,is,uu])/\2<=n/\i<=xs.length/\dX fs.els.length os.els.length most xs=(decide ((xs.length:Int)<=most)&&(xs.drop i).all (jC fs.els.length os.els.length))) (fun i=>xs.length-i) 0 ⟨_,_,_,_,rfl,by simp +decide only [↓ aA,aE,aB],by simp +decide only [↓ aA,aE,aB],by simp +decide only [↓ aA,aE,aB],by simp +decide only [↓ aA,aE,aB],by simp +decide only [↓ aA,aE,aB];rfl,by simp +decide only [↓ aA,aL,aB,ne_eq],by simp +decide only [↓ aA,aL,aB,ne_eq],by omega,Nat.zero_le _,rfl⟩ ?_
 rintro i _ ⟨t,n,low,o,rfl,t2,t3,t4,t5,t9,g0,g1,hn,hi,hq⟩
 have f0:=eY (show 0<n by omega)
 have f1:=eY (show 1<n by omega)
 rcases Nat.lt_or_ge i xs.length with hlt | hge
 ·obtain ⟨y,hDy,hm,hg,hd,hix,hw,hc⟩:=bK (fun x h=>tk_val.len h) hxs hl hlt
  rw [hd,List.all_cons]at hq
  have hpf:=fun {d:Option AV}=>tk_val.pf hDy (d:=d)
  have hv:FW (pg ns fs mm cs) (wd os ts us is uu) fs.els.length os.els.length [pg ns fs mm cs,wd os ts us is uu,y]=_:=oZ ⟨rfl,rfl,hDy⟩
  by_cases km:((i:Nat):Int)<=most
  ·cases hp:jC fs.els.length os.els.length y with
   | false=>
     rw [hp,Bool.false_and,Bool.and_false]at hq
     simp +contextual +decide (maxSteps:=1000000) only [↓ wP,wQ,tf,Nat.reduceAdd,wS,reduceCtorEq,t2,t3,t4,t5,t9,g0,g1,f0,f1,c1,c2,c3,c4,c5,c6,c7,c8,c9,hs.len,hs.idx,hix,hc,hpf,km,hv,hp,hq]
   | true=>
     rw [hp,Bool.true_and]at hq
     simp +contextual +decide (maxSteps:=1000000) only [↓ wP,wQ,tf,Nat.reduceAdd,wS,reduceCtorEq,t2,t3,t4,t5,t9,g0,g1,f0,f1,c1,c2,c3,c4,c5,c6,c7,c8,c9,hs.len,hs.idx,hix,hc,hpf,km,hv,hp,hw]
     exact ⟨i+1,by show _-_<_-_;omega,_,_,_,_,rfl,by simp +decide only [↓ aA,aE,aB,t2],by simp +decide only [↓ aA,aE,aB,t3],by simp +decide only [↓ aA,aE,aB,t4],by simp +decide only [↓ aA,aE,aB,t5],by simp +decide only [↓ aA,aE,aB],by simp +decide only [↓ aA,aL,aB,ne_eq,g0,g1,f0,f1,cG],by simp +decide only [↓ aA,aL,aB,ne_eq,g0,g1,f0,f1,cG],by omega,hlt,hq⟩
  ·have hgt:(((xs.length:Nat):Int)<=most)=False:=eq_false (by omega)
   rw [decide_eq_false (fun h=>(hgt ▸ h:False)),Bool.false_and]at hq
   simp +contextual +decide (maxSteps:=1000000) only [↓ wP,wQ,tf,Nat.reduceAdd,wS,reduceCtorEq,t2,t3,t4,t5,t9,g0,g1,hs.len,hc,km,hgt,hq]
 ·obtain rfl:i=xs.length:=Nat.le_antisymm hi hge
  rw [List.drop_length,List.all_nil,Bool.and_true]at hq
  simp +contextual +decide (maxSteps:=1000000) only [↓ wP,wQ,tf,Nat.reduceAdd,wS,reduceCtorEq,t2,t3,t4,t5,t9,hs.len,bG,hq]
end
section
variable {ns fs mm cs os ts us is uu:AV}
abbrev qW (P W:AV) (xn:List AV) (nf no:Int):List AV->Option AV:=sg3 (fun a b c=>a=P/\b=W/\AX c) fun _ _ c=>.bool (nE xn nf no c.els)
theorem aEx {xn:List AV} {nf no n:Int} {e v:AV}:NQ xn nf no (.agg [.int .i64 n,e,v])=(inR n 0 ((xn.length:Int)-1)&&dX nf no 30 e.els&&dX nf no (dQ (dM xn n)) v.els):=rfl
set_option maxHeartbeats 4000000 in
theorem AS (h:RW ns fs mm cs os ts us is uu):Abs.Ok Tryz.prog 70 (qW (pg ns fs mm cs) (wd os ts us is uu) ns.els fs.els.length os.els.length):=ok3 fun a b x ⟨ea,eb,hx⟩=>by
 subst ea;subst eb
 have hux:=(fC x hx).1
 obtain ⟨c1,c2,c3,c4,c5,c6,c7,c8,c9⟩:=h.cells
 obtain ⟨xs,hs,hxs⟩:=hx
 obtain ⟨xn,hn0,hnx⟩:=h.ns
 have hl:=hs.2
 have w1:=bT hn0.2
 refine aH (L:=[ent 31 eZ,ent 122 (tB dP fun n=>.int .i64 (dQ n)),ent 72 (jZ (pg ns fs mm cs) (wd os ts us is uu) fs.els.length os.els.length)]) (elist_cons rIn6_ok.ent (elist_cons rAsks_ok.ent (elist_cons (tR h).ent aG))) (fun r=>(bif Nat.beq r 5 then [6,13,27,28] else [],[])) (by kernel_rfl) Tryz.func70 Tryz.ntmps70 Tryz.results70 rfl rfl (aC (dG _ h.pg).1.und (aC (tA _ h.wd).1.und (aC hux.und aF))) aJ ?_
 rw [hs.els,hn0.els]
 simp +contextual +decide (maxSteps:=1000000) only [↓ wP,wQ,tf,Nat.reduceAdd,wS,reduceCtorEq,c1,c2,c3,c4,c5,c6,c7,c8,c9]
 refine aQ (fun i e=>∃ t n low o,e=⟨57,none,70,t,[],⟨n,low,o⟩,.no⟩/\t.val 2=x/\t.val 3=.ptr 0 0 0/\t.val 4=.ptr 1 0 0/\t.val 7=.int .i64 (i:Nat)/\o.get 0=some (aU 0 [ns,fs,mm,cs])/\o.get 1=some (aU 0 [os,ts,us,is,uu])/\2<=n/\i<=xs.length/\nE xn fs.els.length os.els.length xs=(decide (xs.length<=40)&&(xs.drop i).all (NQ xn fs.els.length os.els.length))) (fun i=>xs.length-i) 0 ⟨_,_,_,_,rfl,by simp +decide only [↓ aA,aE,aB],by simp +decide only [↓ aA,aE,aB],by simp +decide only [↓ aA,aE,aB],by simp +decide only [↓ aA,aE,aB];rfl,by simp +decide only [↓ aA,aL,aB,ne_eq],by simp +decide only [↓ aA,aL,aB,ne_eq],by omega,Nat.zero_le _,rfl⟩ ?_
 rintro i _ ⟨t,n,low,o,rfl,t2,t3,t4,t7,g0,g1,hn,hi,hq⟩
 have f0:=eY (show 0<n by omega)
 have f1:=eY (show 1<n by omega)
 rcases Nat.lt_or_ge i xs.length with hlt | hge
 ·obtain ⟨y,hDy,hm,hg,hd,hix,hw,hc⟩:=bK (fun x h=>tk_fr.len h) hxs hl hlt
  rw [hd,List.all_cons]at hq
  have hpf:=fun {d:Option AV}=>tk_fr.pf hDy (d:=d)
  obtain ⟨_,ev,vv,rfl,⟨m,rfl⟩,he,hv⟩:=hDy
  have ce:=(tu_vals _ he).2
  have cv:=(tu_vals _ hv).2
  rw [aEx]at hq
  by_cases km:((i:Nat):Int)<=40
  ·cases k1:inR m 0 ((xn.length:Int)-1) with
   | false=>
     rw [k1,Bool.false_and,Bool.false_and,Bool.false_and,Bool.and_false]at hq
     simp +contextual +decide (maxSteps:=1000000) only [↓ wP,wQ,tf,Nat.reduceAdd,wS,reduceCtorEq,t2,t3,t4,t7,g0,g1,f0,f1,cG,ce,cv,c1,c2,c3,c4,c5,c6,c7,c8,c9,hs.len,hs.idx,hix,hc,hpf,km,hn0.len,hn0.stab,w1,aI,k1,hq]
   | true=>
     obtain ⟨z,hDz,_,hz,hix2,hpf2,_,_⟩:=lO tk_node hnx k1
     rw [show dM xn m=z from hz]at hq
     have ha:tB dP (fun n=>.int .i64 (dQ n)) [z]=_:=cR hDz
     have hv1:jZ (pg ns fs mm cs) (wd os ts us is uu) fs.els.length os.els.length [pg ns fs mm cs,wd os ts us is uu,ev,.int .i64 30]=some (.bool (dX fs.els.length os.els.length 30 ev.els)):=GC ⟨rfl,rfl,he,_,rfl⟩
     have hv2:jZ (pg ns fs mm cs) (wd os ts us is uu) fs.els.length os.els.length [pg ns fs mm cs,wd os ts us is uu,vv,.int .i64 (dQ z)]=some (.bool (dX fs.els.length os.els.length (dQ z) vv.els)):=GC ⟨rfl,rfl,hv,_,rfl⟩
     rw [k1,Bool.true_and]at hq
     cases k2:dX fs.els.length os.els.length 30 ev.els with
     | false=>
       rw [k2,Bool.false_and,Bool.false_and,Bool.and_false]at hq
       simp +contextual +decide (maxSteps:=1000000) only [↓ wP,wQ,tf,Nat.reduceAdd,wS,reduceCtorEq,t2,t3,t4,t7,g0,g1,f0,f1,cG,ce,cv,c1,c2,c3,c4,c5,c6,c7,c8,c9,hs.len,hs.idx,hix,hc,hpf,km,hn0.len,hn0.stab,w1,aI,k1,hv1,k2,hq]
     | true=>
       rw [k2,Bool.true_and]at hq
       cases k3:dX fs.els.length os.els.length (dQ z) vv.els with
       | false=>
         rw [k3,Bool.false_and,Bool.and_false]at hq
         simp +contextual +decide (maxSteps:=1000000) only [↓ wP,wQ,tf,Nat.reduceAdd,wS,reduceCtorEq,t2,t3,t4,t7,g0,g1,f0,f1,cG,ce,cv,c1,c2,c3,c4,c5,c6,c7,c8,c9,hs.len,hs.idx,hix,hc,hpf,km,hn0.len,hn0.idx,hn0.stab,w1,aI,k1,hv1,k2,hix2,hpf2,ha,hv2,k3,hq]
       | true=>
         rw [k3,Bool.true_and]at hq
         simp +contextual +decide (maxSteps:=1000000) only [↓ wP,wQ,tf,Nat.reduceAdd,wS,reduceCtorEq,t2,t3,t4,t7,g0,g1,f0,f1,cG,ce,cv,c1,c2,c3,c4,c5,c6,c7,c8,c9,hs.len,hs.idx,hix,hc,hpf,km,hn0.len,hn0.idx,hn0.stab,w1,aI,k1,hv1,k2,hix2,hpf2,ha,hv2,k3,hw]
         exact ⟨i+1,by show _-_<_-_;omega,_,_,_,_,rfl,by simp +decide only [↓ aA,aE,aB,t2],by simp +decide only [↓ aA,aE,aB,t3],by simp +decide only [↓ aA,aE,aB,t4],by simp +decide only [↓ aA,aE,aB],by simp +decide only [↓ aA,aL,aB,ne_eq,g0,g1,f0,f1,cG],by simp +decide only [↓ aA,aL,aB,ne_eq,g0,g1,f0,f1,cG],by omega,hlt,hq⟩
  ·have hgt:(((xs.length:Nat):Int)<=40)=False:=eq_false (by omega)
   rw [decide_eq_false (show ¬ xs.length<=40 by omega),Bool.false_and]at hq
   simp +contextual +decide (maxSteps:=1000000) only [↓ wP,wQ,tf,Nat.reduceAdd,wS,reduceCtorEq,t2,t3,t4,t7,g0,g1,hs.len,hc,km,hgt,hq]
 ·obtain rfl:i=xs.length:=Nat.le_antisymm hi hge
  rw [List.drop_length,List.all_nil,Bool.and_true]at hq
  have hgt:(((xs.length:Nat):Int)<=40)=(xs.length<=40):=propext (by omega)
  simp +contextual +decide (maxSteps:=1000000) only [↓ wP,wQ,tf,Nat.reduceAdd,wS,reduceCtorEq,t2,t3,t4,t7,hs.len,bG,hq,hgt]
theorem aEy {xs:List AV} {x:AV} {i M:Nat} (hi:i<M) (hd:xs.drop i=x::xs.drop (i+1)):(xs.take M).drop i=x::(xs.take M).drop (i+1):=by
 rw [List.drop_take,hd,List.drop_take,show M-i=(M-(i+1))+1 by omega,List.take_succ_cons]
abbrev tS (P ns:AV):List AV->Option AV:=sg3 (fun a b c=>a=P/\TSl (TFn ns) b/\∃ m:Nat,c=.int .i64 m/\m<=b.els.length) fun _ b c=>.bool ((b.els.take c.num.toNat).all (kC ns.els))
set_option maxHeartbeats 2000000 in
theorem IZ {ns fs mm cs:AV} (h1:TSl dP ns) (h2:fI fs) (h3:cI mm) (h4:qB cs):Abs.Ok Tryz.prog 71 (tS (pg ns fs mm cs) ns):=ok3 fun a x b ⟨ea,hx,m,eb,hm⟩=>by
 subst ea;subst eb
 have hup:=(dG _ ⟨_,_,_,_,rfl,h1,h2,h3,h4⟩:UnderE 0 (pg ns fs mm cs)/\_).1
 have c1:=(dW _ h1).2
 have c2:=(aR _ h2).2
 have c3:=(tu_int _ h3).2
 have c4:=(dT _ h4).2
 have hux:=(iH (T:=TFn ns) (fun a h=>(tk_fr a h.1).1) x hx).1
 obtain ⟨xs,hs,hxs⟩:=hx
 obtain ⟨xn,hn0,hnx⟩:=h1
 have hl:=hs.2
 rw [hs.els]at hm
 refine aH (L:=[ent 122 (tB dP fun n=>.int .i64 (dQ n))]) (elist_cons rAsks_ok.ent aG) (fun r=>(bif Nat.beq r 4 then [15] else [],[])) (by kernel_rfl) Tryz.func71 Tryz.ntmps71 Tryz.results71 rfl rfl (aC hup.und (aC hux.und (aC aT aF))) aJ ?_
 rw [hs.els,hn0.els,show (AV.int .i64 (m:Nat)).num.toNat=m from Int.toNat_natCast m]
 simp +contextual +decide (maxSteps:=1000000) only [↓ wP,wQ,tf,Nat.reduceAdd,wS,reduceCtorEq,c1,c2,c3,c4]
 refine aQ (fun i e=>∃ t n low o,e=⟨30,none,71,t,[],⟨n,low,o⟩,.no⟩/\t.val 1=x/\t.val 2=.int .i64 (m:Nat)/\t.val 3=.ptr 0 0 0/\t.val 7=.int .i64 (i:Nat)/\o.get 0=some (aU 0 [ns,fs,mm,cs])/\1<=n/\i<=m/\(xs.take m).all (kC xn)=((xs.take m).drop i).all (kC xn)) (fun i=>m-i) 0 ⟨_,_,_,_,rfl,by simp +decide only [↓ aA,aE,aB],by simp +decide only [↓ aA,aE,aB],by simp +decide only [↓ aA,aE,aB],by simp +decide only [↓ aA,aE,aB];rfl,by simp +decide only [↓ aA,aL,aB,ne_eq],by omega,Nat.zero_le _,rfl⟩ ?_
 rintro i _ ⟨t,n,low,o,rfl,t1,t2,t3,t7,g0,hn,hi,hq⟩
 have f0:=eY (show 0<n by omega)
 rcases Nat.lt_or_ge i m with hlt | hge
 ·obtain ⟨y,hDy,hm',hg,hd,hix,hw,hc⟩:=bK (fun x h=>tk_fr.len h.1) hxs hl (show i<xs.length by omega)
  rw [aEy hlt hd,List.all_cons]at hq
  have hpf:=fun {d:Option AV}=>tk_fr.pf hDy.1 (d:=d)
  have hlt':(((i:Nat):Int)<((m:Nat):Int))=True:=eq_true (by omega)
  obtain ⟨hDy,hin⟩:=hDy
  obtain ⟨_,ev,vv,rfl,⟨q,rfl⟩,he,hv⟩:=hDy
  have ce:=(tu_vals _ he).2
  have cv:=(tu_vals _ hv).2
  rw [hn0.els]at hin
  obtain ⟨z,hDz,_,hz,hix2,hpf2,_,_⟩:=lO tk_node hnx hin
  have hix2':∀ {j:IntKind} {d:Option AV},tU (some 4) xn (.int j q) d=some (.pf z):=hix2
  have ha:tB dP (fun n=>.int .i64 (dQ n)) [z]=_:=cR hDz
  obtain ⟨xv,hsv,_⟩:=hv
  have ho:kC xn (.agg [.int .i64 q,ev,vv])=decide (((xv.length:Nat):Int)<dQ z):=by
   have:dM xn q=z:=hz
   simp only [kC,AV.fld,AV.num,List.getD_cons_zero,List.getD_cons_succ,hsv.els,this]
  rw [ho]at hq
  by_cases k1:((xv.length:Nat):Int)<dQ z
  ·have k1':(((xv.length:Nat):Int) ≥ dQ z)=False:=eq_false (by omega)
   rw [decide_eq_true k1,Bool.true_and]at hq
   simp +contextual +decide (maxSteps:=1000000) only [↓ wP,wQ,tf,Nat.reduceAdd,wS,reduceCtorEq,t1,t2,t3,t7,g0,f0,cG,ce,cv,c1,c2,c3,c4,hs.idx,hix,hlt',hpf,hsv.len,hsv.stab,hn0.idx,hix2',hpf2,ha,k1',k1,ge_iff_le,Int.not_le,hw]
   exact ⟨i+1,by show _-_<_-_;omega,_,_,_,_,rfl,by simp +decide only [↓ aA,aE,aB,t1],by simp +decide only [↓ aA,aE,aB,t2],by simp +decide only [↓ aA,aE,aB,t3],by simp +decide only [↓ aA,aE,aB],by simp +decide only [↓ aA,aL,aB,ne_eq,g0,f0,cG],by omega,hlt,hq⟩
  ·have k1':(((xv.length:Nat):Int) ≥ dQ z)=True:=eq_true (by omega)
   have k2:(dQ z<=((xv.length:Nat):Int))=True:=eq_true (by omega)
   rw [decide_eq_false k1,Bool.false_and]at hq
   simp +contextual +decide (maxSteps:=1000000) only [↓ wP,wQ,tf,Nat.reduceAdd,wS,reduceCtorEq,t1,t2,t3,t7,g0,f0,cG,ce,cv,c1,c2,c3,c4,hs.idx,hix,hlt',hpf,hsv.len,hsv.stab,hn0.idx,hix2',hpf2,ha,k1',k2,ge_iff_le,hq]
 ·obtain rfl:i=m:=Nat.le_antisymm hi hge
  rw [List.drop_eq_nil_of_le (by simp;omega),List.all_nil]at hq
  have hlt':(((i:Nat):Int)<((i:Nat):Int))=False:=eq_false (by omega)
  simp +contextual +decide (maxSteps:=1000000) only [↓ wP,wQ,tf,Nat.reduceAdd,wS,reduceCtorEq,t2,t7,hlt',hq]
end
end
end Go.Proofs.YthakciolcdlphaaGreat
