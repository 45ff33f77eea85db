/-
  The program of meanings: objects.
-/
import Derived.Test.YtifmdaalhclhgaaGreatNc
set_option linter.unusedVariables false
set_option linter.unusedSimpArgs false
namespace Go.Proofs.YtifmdaalhclhgaaGreat
open Go.Abs Go Go.Abs.TryzF
noncomputable section
set_option maxRecDepth 10000
section
variable {ns fs mm cs os ts us is uu:AV}
def aEh (ns fs os r:AV):List AV->Option AV:=nP (fun a b=>a=r/\fX b) fun _ b=>.bool (mR ns.els fs.els.length os.els.length (b.fld 1).num (b.fld 2).els (b.fld 3).els)
theorem aEi (h:RW ns fs mm cs os ts us is uu):Abs.Ok Tryz.prog 234 (aEh ns fs os (rn ns fs mm cs os ts us is uu)):=
 ok2 fun a b ⟨e,hb⟩=>by subst e;obtain ⟨_,_,v,g,rfl,⟨k,rfl⟩,⟨n,rfl⟩,hv,hg⟩:=hb;exact aKd h k n v g hv hg
theorem aEj {ns fs os r v g:AV} {k n:Int} (hv:dN v) (hg:uO g):aEh ns fs os r [r,.agg [.int .i64 k,.int .i64 n,v,g]]=some (.bool (mR ns.els fs.els.length os.els.length n v.els g.els)):=
 sg2_eq ⟨rfl,_,_,_,_,rfl,⟨_,rfl⟩,⟨_,rfl⟩,hv,hg⟩
theorem mQ {k:Nat} {D:AV->Prop} {xs:List AV} (hD:Tk k D) (hx:∀ x∈xs,D x) {n:Int} (h:inR n 0 ((xs.length:Int)-1)=true):
 ∃ y,D y/\y∈xs/\xs.getD n.toNat .top=y/\(∀ {q:IntKind} {d:Option AV},uP (some k) xs (.int q n) d=some (.pf y))/\(∀ {d:Option AV},ZD (some (some k)) y d=some y)/\0<=n/\n.toNat<xs.length:=by
 simp only [inR,Bool.and_eq_true,decide_eq_true_eq]at h
 have hlt:n.toNat<xs.length:=by omega
 have hg:=List.getElem?_eq_getElem hlt;have hm:=List.getElem_mem hlt;exact ⟨_,hx _ hm,hm,by simp [List.getD_eq_getElem?_getD,hg],fun {q d}=>JN h.1 hg (hD.len (hx _ hm)),fun {d}=>hD.pf (hx _ hm),h.1,hlt⟩
set_option maxHeartbeats 4000000 in
theorem YN (h:RW ns fs mm cs os ts us is uu) (k n:Int) (vs gs:AV) (hv:dN vs) (hg:uO gs):
 Abs.Returns Tryz.prog 178 [rn ns fs mm cs os ts us is uu,.agg [.int .i64 k,.int .i64 n,vs,gs]] (.bool (lB ns.els cs.els fs.els.length os.els.length k n vs.els gs.els)):=by
 have huo:UnderE 0 (.agg [.int .i64 k,.int .i64 n,vs,gs]):=(tk_ob _ ⟨_,_,_,_,rfl,⟨_,rfl⟩,⟨_,rfl⟩,hv,hg⟩).1;have cv:=(aH _ hv).2;have cg:=(bN _ hg).2;have ht:=aEj (ns:=ns) (fs:=fs) (os:=os) (r:=rn ns fs mm cs os ts us is uu) (k:=k) (n:=n) hv hg;have a1:tM (pZ (rn ns fs mm cs os ts us is uu)) (oE fs.els.length os.els.length) [vs,pZ (rn ns fs mm cs os ts us is uu)]=_:=sg2_eq ⟨hv,rfl⟩;obtain ⟨xv,hsv,_⟩:=hv;have hf:=DM (ns:=ns) (fs:=fs) (os:=os) (r:=rn ns fs mm cs os ts us is uu) (l:=0) hg aE aE;obtain ⟨xg,hsg,hgx⟩:=hg;obtain ⟨xn,hn,hnx⟩:=h.ns;obtain ⟨xc,hc,hcx⟩:=h.cs;obtain ⟨c1,c2,c3,c4,c5,c6,c7,c8,c9⟩:=h.cells;have w1:=cB hn.2;have w2:=cB hc.2;have hl:=hsv.2;rw [hsv.els]at ht a1 ⊢;rw [hsg.els]at ht hf ⊢
 refine aF (L:=[ent 149 gP,ent 231 (tM (pZ (rn ns fs mm cs os ts us is uu)) (oE fs.els.length os.els.length)),ent 233 (BP ns fs os (rn ns fs mm cs os ts us is uu)),ent 234 (aEh ns fs os (rn ns fs mm cs os ts us is uu))])
  (elist_cons within_ok.ent (elist_cons (VT h).ent (elist_cons (DL h).ent (elist_cons (aEi h).ent aD)))) (fun r=>(bif Nat.beq r 6 then [11] else bif Nat.beq r 8 then [11] else bif Nat.beq r 14 then [19] else [],[])) (by kernel_rfl) Tryz.func178 Tryz.ntmps178 Tryz.results178 rfl rfl (aA h.und.und (aA huo.und aC)) aJ ?_
 cases kv:xv.all (oE fs.els.length os.els.length) with
 | false=>simp +contextual +decide (maxSteps:=1000000) only [↓ wP,wQ,tf,Nat.reduceAdd,wS,cv,cg,a1,kv];simp +decide only [wT,AV.fld,AV.num,lB,kv]
 | true=>
 by_cases k1:k=1
 ·subst k1
  by_cases g1:((xg.length:Nat):Int)=0
  ·cases g2:inR n 0 ((xc.length:Int)-1) with
   | false=>simp +contextual +decide (maxSteps:=1000000) only [↓ wP,wQ,tf,Nat.reduceAdd,wS,cv,cg,a1,kv,hsg.len,g1,hc.len,hc.stab,w2,aI,g2,c4];simp +decide only [wT,AV.fld,AV.num,lB,kv,hc.els,g1,g2]
   | true=>
     obtain ⟨y,hD,_,hy,hix,hpf,_,_⟩:=mQ tk_con hcx g2;obtain ⟨_,_,rfl,⟨b,rfl,_⟩,⟨m,rfl⟩⟩:=hD;simp +contextual +decide (maxSteps:=1000000) only [↓ wP,wQ,tf,Nat.reduceAdd,wS,cv,cg,a1,kv,hsg.len,g1,hc.len,hc.stab,hc.idx,w2,aI,g2,hix,hsv.len,hsv.stab,c4];simp +decide only [wT,AV.fld,AV.num,lB,kv,hc.els,hy,g1,g2]
  ·simp +contextual +decide (maxSteps:=1000000) only [↓ wP,wQ,tf,Nat.reduceAdd,wS,cv,cg,a1,kv,hsg.len,g1];simp +decide only [wT,AV.fld,AV.num,lB,kv,g1]
 by_cases k2:k=2
 ·subst k2
  by_cases g1:((xg.length:Nat):Int)=0
  ·cases g2:inR n 0 ((xn.length:Int)-1) with
   | false=>simp +contextual +decide (maxSteps:=1000000) only [↓ wP,wQ,tf,Nat.reduceAdd,wS,cv,cg,a1,kv,hsg.len,g1,hn.len,hn.stab,w1,aI,g2,c1];simp +decide only [wT,AV.fld,AV.num,lB,kv,hn.els,g1,g2]
   | true=>
     obtain ⟨y,hD,_,hy,hix,hpf,_,_⟩:=mQ tk_node hnx g2;obtain ⟨_,_,_,_,rfl,⟨op,rfl⟩,⟨m,rfl⟩,q1,q2⟩:=hD;have e1:=(aL _ q1).2;have e2:=(fG _ q2).2;by_cases g3:op=5
     ·simp +contextual +decide (maxSteps:=1000000) only [↓ wP,wQ,tf,Nat.reduceAdd,wS,cv,cg,a1,kv,hsg.len,g1,hn.len,hn.stab,hn.idx,w1,aI,g2,hix,hsv.len,hsv.stab,c1,g3]
      simp +decide only [wT,AV.fld,AV.num,lB,kv,hn.els,eF,hy,g1,g2,g3]
     ·simp +contextual +decide (maxSteps:=1000000) only [↓ wP,wQ,tf,Nat.reduceAdd,wS,cv,cg,a1,kv,hsg.len,g1,hn.len,hn.stab,hn.idx,w1,aI,g2,hix,c1,g3]
      simp +decide only [wT,AV.fld,AV.num,lB,kv,hn.els,eF,hy,g1,g2,g3]
  ·simp +contextual +decide (maxSteps:=1000000) only [↓ wP,wQ,tf,Nat.reduceAdd,wS,cv,cg,a1,kv,hsg.len,g1];simp +decide only [wT,AV.fld,AV.num,lB,kv,g1]
 by_cases k3:k=3
 ·subst k3
  by_cases g1:((xg.length:Nat):Int)=0
  ·by_cases g2:n=0
   ·simp +contextual +decide (maxSteps:=1000000) only [↓ wP,wQ,tf,Nat.reduceAdd,wS,cv,cg,a1,kv,hsg.len,g1,g2,hsv.len];simp +decide only [wT,AV.fld,AV.num,lB,kv,g1]
   ·simp +contextual +decide (maxSteps:=1000000) only [↓ wP,wQ,tf,Nat.reduceAdd,wS,cv,cg,a1,kv,hsg.len,g1,g2];simp +decide only [wT,AV.fld,AV.num,lB,kv,g2]
  ·simp +contextual +decide (maxSteps:=1000000) only [↓ wP,wQ,tf,Nat.reduceAdd,wS,cv,cg,a1,kv,hsg.len,g1];simp +decide only [wT,AV.fld,AV.num,lB,kv,g1]
 by_cases k4:k=4
 ·subst k4
  by_cases g1:((xg.length:Nat):Int)=0
  ·by_cases g2:n=0
   ·simp +contextual +decide (maxSteps:=1000000) only [↓ wP,wQ,tf,Nat.reduceAdd,wS,cv,cg,a1,kv,hsg.len,g1,g2,hsv.len];simp +decide only [wT,AV.fld,AV.num,lB,kv,g1]
   ·simp +contextual +decide (maxSteps:=1000000) only [↓ wP,wQ,tf,Nat.reduceAdd,wS,cv,cg,a1,kv,hsg.len,g1,g2];simp +decide only [wT,AV.fld,AV.num,lB,kv,g2]
  ·simp +contextual +decide (maxSteps:=1000000) only [↓ wP,wQ,tf,Nat.reduceAdd,wS,cv,cg,a1,kv,hsg.len,g1];simp +decide only [wT,AV.fld,AV.num,lB,kv,g1]
 by_cases k5:k=5
 ·subst k5
  by_cases g2:n=0
  ·by_cases g3:((xv.length:Nat):Int)=0
   ·by_cases g1:((xg.length:Nat):Int) > 0
    ·cases g4:gI ns.els fs.els.length os.els.length xg 0 with
     | false=>simp +contextual +decide (maxSteps:=1000000) only [↓ wP,wQ,tf,Nat.reduceAdd,wS,cv,cg,a1,kv,hsg.len,hsg.stab,hsv.len,hsv.stab,g1,g2,g3,hf,g4];simp +decide only [wT,AV.fld,AV.num,lB,g4]
     | true=>
       have g0:inR 0 0 ((xg.length:Int)-1)=true:=by simp only [inR,Bool.and_eq_true,decide_eq_true_eq];omega
       obtain ⟨y,hD,hym,hy,hix,hpf,_,_⟩:=mQ tk_fr hgx g0;have hall:=g4;simp only [gI,pA,Bool.and_eq_true]at hall;have hin:=xJ (List.all_eq_true.1 hall.1.2 y hym);obtain ⟨_,_,_,rfl,⟨m,rfl⟩,q1,q2⟩:=hD;have e1:=(aH _ q1).2;have e2:=(aH _ q2).2;rw [hn.els]at hin;obtain ⟨z,hDz,_,hz,hix2,hpf2,_,_⟩:=mQ tk_node hnx hin;obtain ⟨_,_,_,_,rfl,⟨op,rfl⟩,⟨m',rfl⟩,q3,q4⟩:=hDz;have e3:=(aL _ q3).2;have e4:=(fG _ q4).2;have hix2':∀ {q:IntKind} {d:Option AV},uP (some 4) xn (.int q m) d=some (.pf (.agg [.int .i64 op,.int .i64 m',_,_])):=hix2;simp +contextual +decide (maxSteps:=1000000) only [↓ wP,wQ,tf,Nat.reduceAdd,wS,cv,cg,a1,kv,hsg.len,hsg.stab,hsg.idx,hsv.len,hsv.stab,g1,g2,g3,hf,g4,hix,hn.idx,hix2',c1]
       have g4':gI xn fs.els.length os.els.length xg 0=true:=by rw [<-hn.els];exact g4
       have hy':xg.getD 0 .top=.agg [.int .i64 m,_,_]:=hy;have hz':xn.getD m.toNat .top=.agg [.int .i64 op,.int .i64 m',_,_]:=hz;simp +decide only [wT,AV.fld,AV.num,lB,kv,g1,g3,g4',hn.els,eF,hy',hz']
    ·simp +contextual +decide (maxSteps:=1000000) only [↓ wP,wQ,tf,Nat.reduceAdd,wS,cv,cg,a1,kv,hsg.len,hsg.stab,hsv.len,hsv.stab,g1,g2,g3];simp +decide only [wT,AV.fld,AV.num,lB,g1]
   ·simp +contextual +decide (maxSteps:=1000000) only [↓ wP,wQ,tf,Nat.reduceAdd,wS,cv,cg,a1,kv,hsg.len,hsv.len,hsv.stab,g2,g3];simp +decide only [wT,AV.fld,AV.num,lB,g3]
  ·simp +contextual +decide (maxSteps:=1000000) only [↓ wP,wQ,tf,Nat.reduceAdd,wS,cv,cg,a1,kv,hsg.len,g2];simp +decide only [wT,AV.fld,AV.num,lB,g2]
 by_cases k6:k=6
 ·subst k6
  simp +contextual +decide (maxSteps:=1000000) only [↓ wP,wQ,tf,Nat.reduceAdd,wS,cv,cg,a1,kv,hsg.len,ht];simp +decide only [wT,AV.fld,AV.num,lB,kv]
 simp +contextual +decide (maxSteps:=1000000) only [↓ wP,wQ,tf,Nat.reduceAdd,wS,cv,cg,a1,kv,hsg.len,k1,k2,k3,k4,k5,k6];simp +decide only [wT,AV.fld,AV.num,lB,k1,k2,k3,k4,k5,k6]
end
theorem rIn6_ok:Abs.Ok Tryz.prog 80 gP:=by
 intro args v hg;unfold gP at hg;split at hg<;>cases hg;rename_i n l h;refine aF (L:=[]) aD aN (by kernel_rfl) Tryz.func80 Tryz.ntmps80 Tryz.results80 rfl rfl (aA aT (aA aT (aA aT aC))) aJ ?_;by_cases h1:l<=n
 ·refine FJ @h1 ?_
  simp [inR,h1]
 ·refine FJ @h1 ?_
  simp [inR,h1]
set_option maxHeartbeats 4000000 in
theorem rAsks_ok:Abs.Ok Tryz.prog 111 (rE eK fun n=>.int .i64 (eL n)):=wD fun x hx=>by
 have hux:=(tk_node x hx).1;obtain ⟨_,_,ki,pa,rfl,⟨k,rfl⟩,⟨n,rfl⟩,hk,hp⟩:=hx;have ck:=(aL _ hk).2;have cp:=(fG _ hp).2;obtain ⟨xs,hks,_⟩:=hk;refine aF (L:=[]) aD aN (by kernel_rfl) Tryz.func111 Tryz.ntmps111 Tryz.results111 rfl rfl (aA hux.und aC) aT ?_
 rcases DK k with rfl | rfl | rfl | rfl | rfl | rfl | rfl | rfl | rfl | rfl | rfl | rfl | rfl | rfl | rfl | rfl | rfl | rfl | rfl | h
 case inr.inr.inr.inr.inr.inr.inr.inr.inl=>refine yQ @ck @cp hks.lX ?_;simp [eL,AV.fld,AV.num,hks.els]
 case inr.inr.inr.inr.inr.inr.inr.inr.inr.inr.inr.inr.inr.inr.inr.inr.inr.inr.inr=>refine yQ @ck @cp @h ?_;simp [eL,AV.fld,AV.num,h]
 all_goals refine ap2 @ck @cp ?_;rfl
section
variable {ns fs mm cs os ts us is uu:AV}
abbrev pg (ns fs mm cs:AV):AV:=.agg [ns,fs,mm,cs]
abbrev wd (os ts us is uu:AV):AV:=.agg [os,ts,us,is,uu]
theorem RW.pg (h:RW ns fs mm cs os ts us is uu):fY (pg ns fs mm cs):=⟨_,_,_,_,rfl,h.ns,h.fs,h.mm,h.cs⟩
theorem RW.wd (h:RW ns fs mm cs os ts us is uu):tO (wd os ts us is uu):=⟨_,_,_,_,_,rfl,h.os,h.ts,h.us,h.is,h.uu⟩
abbrev JE (P W:AV) (nf no:Int):List AV->Option AV:=VY (fun a b c=>a=P/\b=W/\oD c) fun _ _ c=>.bool (oE nf no c)
set_option maxHeartbeats 1000000 in
theorem YO (h:RW ns fs mm cs os ts us is uu):Abs.Ok Tryz.prog 184 (JE (pg ns fs mm cs) (wd os ts us is uu) fs.els.length os.els.length):=ok3 fun a b x ⟨ea,eb,hx⟩=>by
 subst ea;subst eb;have hux:=(tk_val x hx).1;obtain ⟨_,_,rfl,⟨k,rfl⟩,⟨n,rfl⟩⟩:=hx;obtain ⟨xf,hf,_⟩:=h.fs;obtain ⟨xo,ho,_⟩:=h.os;obtain ⟨c1,c2,c3,c4,c5,c6,c7,c8,c9⟩:=h.cells;have w1:=cB hf.2;have w2:=cB ho.2;refine aF (L:=[ent 80 gP]) (elist_cons rIn6_ok.ent aD) aN (by kernel_rfl) Tryz.func184 Tryz.ntmps184 Tryz.results184 rfl rfl (aA (dM _ h.pg).1.und (aA (tk_wd _ h.wd).1.und (aA hux.und aC))) aJ ?_;rw [hf.els,ho.els,MZ];by_cases h1:k=1
 ·subst h1;refine BC @aI @c1 @c2 @c3 @c4 @c5 @c6 @c7 @c8 @c9 ?_;rfl
 by_cases h2:k=2
 ·subst h2;exact JH @aI @c1 @c2 @c3 @c4 @c5 @c6 @c7 @c8 @c9
 by_cases h3:k=3
 ·subst h3;exact az9 @c1 @c2 @c3 @c4 @c5 @c6 @c7 @c8 @c9
 by_cases h4:k=4
 ·subst h4;exact vO @aI hf.lX @w1 @c1 @c2 @c3 @c4 @c5 @c6 @c7 @c8 @c9
 by_cases h5:k=5
 ·subst h5;exact vO @aI ho.lX @w2 @c1 @c2 @c3 @c4 @c5 @c6 @c7 @c8 @c9
 exact xK @h1 @h2 @h3 @h4 @h5 @c1 @c2 @c3 @c4 @c5 @c6 @c7 @c8 @c9
abbrev kR (P W:AV) (nf no:Int):List AV->Option AV:=sg4 (fun a b c d=>a=P/\b=W/\dN c/\cA d) fun _ _ c d=>.bool (fA nf no d.num c.els)
theorem vM (h:RW ns fs mm cs os ts us is uu):Abs.Ok Tryz.prog 129 (kR (pg ns fs mm cs) (wd os ts us is uu) fs.els.length os.els.length):=ok4 fun a b x y ⟨ea,eb,hx,hy⟩=>by
 subst ea;subst eb;obtain ⟨most,rfl⟩:=hy;have hux:=(aH x hx).1;obtain ⟨c1,c2,c3,c4,c5,c6,c7,c8,c9⟩:=h.cells;obtain ⟨xs,hs,hxs⟩:=hx;have hl:=hs.2;refine aF (L:=[ent 184 (JE (pg ns fs mm cs) (wd os ts us is uu) fs.els.length os.els.length)]) (elist_cons (YO h).ent aD) (fun r=>(bif Nat.beq r 4 then [6] else [],[])) (by kernel_rfl) Tryz.func129 Tryz.ntmps129 Tryz.results129 rfl rfl (aA (dM _ h.pg).1.und (aA (tk_wd _ h.wd).1.und (aA hux.und (aA aT aC)))) aJ ?_;rw [hs.els,show (AV.int .i64 most).num=most from rfl];refine ap9 @c1 @c2 @c3 @c4 @c5 @c6 @c7 @c8 @c9 ?_;refine aQ (fun i e=>∃ t n low o,e=⟨33,none,129,t,[],⟨n,low,o⟩,.no⟩/\t.val 2=x/\t.val 3=.int .i64 most/\t.val 4=.ptr 0 0 0/\t.val 5=.ptr 1 0 0/\t.val 9=.int .i64 (i:Nat)/\o.get 0=some (aY 0 [ns,fs,mm,cs])/\o.get 1=some (aY 0 [os,ts,us,is,uu])/\2<=n/\i<=xs.length/\fA fs.els.length os.els.length most xs=(decide ((xs.length:Int)<=most)&&(xs.drop i).all (oE fs.els.length os.els.length))) (fun i=>xs.length-i) 0 ⟨_,_,_,_,rfl,aG,aG,aG,aG,eP,lS,aG,aE,Nat.zero_le _,rfl⟩ ?_;rintro i _ ⟨t,n,low,o,rfl,t2,t3,t4,t5,t9,g0,g1,hn,hi,hq⟩;have f0:=bT (show 0<n by omega);have f1:=bT (show 1<n by omega)
 rcases Nat.lt_or_ge i xs.length with hlt | hge
 ·obtain ⟨y,hDy,hm,hg,hd,hix,hw,hc⟩:=aZ (fun x h=>tk_val.len h) hxs hl hlt
  rw [hd,List.all_cons]at hq
  have hpf:=fun {d:Option AV}=>tk_val.pf hDy (d:=d)
  have hv:JE (pg ns fs mm cs) (wd os ts us is uu) fs.els.length os.els.length [pg ns fs mm cs,wd os ts us is uu,y]=_:=gR ⟨rfl,rfl,hDy⟩;by_cases km:((i:Nat):Int)<=most
  ·cases hp:oE fs.els.length os.els.length y with
   | false=>
     rw [hp,Bool.false_and,Bool.and_false]at hq;exact SL @t2 @t3 @t4 @t5 @t9 @g0 @g1 @f0 @f1 hs.lX hs.iX @hix @hc @hpf @km @hv @hp @hq
   | true=>
     rw [hp,Bool.true_and]at hq;refine NE @t2 @t3 @t4 @t5 @t9 @g0 @g1 @f0 @f1 hs.lX hs.iX @hix @hc @hpf @km @hv @hp @hw ?_;exact ⟨i+1,by show _-_<_-_;omega,_,_,_,_,rfl,aP @t2,aP @t3,aP @t4,aP @t5,aG,by simp +decide only [g0],by simp +decide only [g1],aE,hlt,hq⟩
  ·have hgt:(((xs.length:Nat):Int)<=most)=False:=eq_false aE
   rw [decide_eq_false (fun h=>(hgt ▸ h:False)),Bool.false_and]at hq;exact az8 @t2 @t3 @t9 hs.lX @hc @km @hgt @hq
 ·obtain rfl:i=xs.length:=Nat.le_antisymm hi hge
  rw [List.drop_length,List.all_nil,Bool.and_true]at hq;exact SK @t2 @t3 @t9 hs.lX @aW @hq
end
section
variable {ns fs mm cs os ts us is uu:AV}
abbrev sE (P W:AV) (xn:List AV) (nf no:Int):List AV->Option AV:=VY (fun a b c=>a=P/\b=W/\uO c) fun _ _ c=>.bool (pA xn nf no c.els)
theorem aKa {xn:List AV} {nf no n:Int} {e v:AV}:frR xn nf no (.agg [.int .i64 n,e,v])=(inR n 0 ((xn.length:Int)-1)&&fA nf no 30 e.els&&fA nf no (eL (eF xn n)) v.els):=rfl
set_option maxHeartbeats 4000000 in
theorem DI (h:RW ns fs mm cs os ts us is uu):Abs.Ok Tryz.prog 127 (sE (pg ns fs mm cs) (wd os ts us is uu) ns.els fs.els.length os.els.length):=ok3 fun a b x ⟨ea,eb,hx⟩=>by
 subst ea;subst eb;have hux:=(bN x hx).1;obtain ⟨c1,c2,c3,c4,c5,c6,c7,c8,c9⟩:=h.cells;obtain ⟨xs,hs,hxs⟩:=hx;obtain ⟨xn,hn0,hnx⟩:=h.ns;have hl:=hs.2;have w1:=cB hn0.2;refine aF (L:=[ent 80 gP,ent 111 (rE eK fun n=>.int .i64 (eL n)),ent 129 (kR (pg ns fs mm cs) (wd os ts us is uu) fs.els.length os.els.length)]) (elist_cons rIn6_ok.ent (elist_cons rAsks_ok.ent (elist_cons (vM h).ent aD))) (fun r=>(bif Nat.beq r 5 then [6,13,27,28] else [],[])) (by kernel_rfl) Tryz.func127 Tryz.ntmps127 Tryz.results127 rfl rfl (aA (dM _ h.pg).1.und (aA (tk_wd _ h.wd).1.und (aA hux.und aC))) aJ ?_;rw [hs.els,hn0.els];refine ap9 @c1 @c2 @c3 @c4 @c5 @c6 @c7 @c8 @c9 ?_;refine aQ (fun i e=>∃ t n low o,e=⟨57,none,127,t,[],⟨n,low,o⟩,.no⟩/\t.val 2=x/\t.val 3=.ptr 0 0 0/\t.val 4=.ptr 1 0 0/\t.val 7=.int .i64 (i:Nat)/\o.get 0=some (aY 0 [ns,fs,mm,cs])/\o.get 1=some (aY 0 [os,ts,us,is,uu])/\2<=n/\i<=xs.length/\pA xn fs.els.length os.els.length xs=(decide (xs.length<=40)&&(xs.drop i).all (frR xn fs.els.length os.els.length))) (fun i=>xs.length-i) 0 ⟨_,_,_,_,rfl,aG,aG,aG,eP,lS,aG,aE,Nat.zero_le _,rfl⟩ ?_;rintro i _ ⟨t,n,low,o,rfl,t2,t3,t4,t7,g0,g1,hn,hi,hq⟩;have f0:=bT (show 0<n by omega);have f1:=bT (show 1<n by omega)
 rcases Nat.lt_or_ge i xs.length with hlt | hge
 ·obtain ⟨y,hDy,hm,hg,hd,hix,hw,hc⟩:=aZ (fun x h=>tk_fr.len h) hxs hl hlt
  rw [hd,List.all_cons]at hq
  have hpf:=fun {d:Option AV}=>tk_fr.pf hDy (d:=d)
  obtain ⟨_,ev,vv,rfl,⟨m,rfl⟩,he,hv⟩:=hDy;have ce:=(aH _ he).2;have cv:=(aH _ hv).2;rw [aKa]at hq;by_cases km:((i:Nat):Int)<=40
  ·cases k1:inR m 0 ((xn.length:Int)-1) with
   | false=>
     rw [k1,Bool.false_and,Bool.false_and,Bool.false_and,Bool.and_false]at hq;exact YQ @t2 @t3 @t7 @g0 @f0 @cT @ce @cv hs.lX hs.iX @hix @hc @hpf @km hn0.lX hn0.sX @w1 @aI @k1 @hq
   | true=>
     obtain ⟨z,hDz,_,hz,hix2,hpf2,_,_⟩:=mQ tk_node hnx k1;rw [show eF xn m=z from hz]at hq;have ha:rE eK (fun n=>.int .i64 (eL n)) [z]=_:=bX hDz;have hv1:kR (pg ns fs mm cs) (wd os ts us is uu) fs.els.length os.els.length [pg ns fs mm cs,wd os ts us is uu,ev,.int .i64 30]=some (.bool (fA fs.els.length os.els.length 30 ev.els)):=JM ⟨rfl,rfl,he,_,rfl⟩;have hv2:kR (pg ns fs mm cs) (wd os ts us is uu) fs.els.length os.els.length [pg ns fs mm cs,wd os ts us is uu,vv,.int .i64 (eL z)]=some (.bool (fA fs.els.length os.els.length (eL z) vv.els)):=JM ⟨rfl,rfl,hv,_,rfl⟩;rw [k1,Bool.true_and]at hq
     cases k2:fA fs.els.length os.els.length 30 ev.els with
     | false=>
       rw [k2,Bool.false_and,Bool.false_and,Bool.and_false]at hq;simp +contextual +decide (maxSteps:=1000000) only [↓ wP,wQ,tf,Nat.reduceAdd,wS,t2,t3,t4,t7,g0,g1,f0,f1,cT,ce,cv,hs.len,hs.idx,hix,hc,hpf,km,hn0.len,hn0.stab,w1,aI,k1,hv1,k2,hq]
     | true=>
       rw [k2,Bool.true_and]at hq
       cases k3:fA fs.els.length os.els.length (eL z) vv.els with
       | false=>
         rw [k3,Bool.false_and,Bool.and_false]at hq;simp +contextual +decide (maxSteps:=1000000) only [↓ wP,wQ,tf,Nat.reduceAdd,wS,t2,t3,t4,t7,g0,g1,f0,f1,cT,ce,cv,hs.len,hs.idx,hix,hc,hpf,km,hn0.len,hn0.idx,hn0.stab,w1,aI,k1,hv1,k2,hix2,hpf2,ha,hv2,k3,hq]
       | true=>
         rw [k3,Bool.true_and]at hq;simp +contextual +decide (maxSteps:=1000000) only [↓ wP,wQ,tf,Nat.reduceAdd,wS,t2,t3,t4,t7,g0,g1,f0,f1,cT,ce,cv,hs.len,hs.idx,hix,hc,hpf,km,hn0.len,hn0.idx,hn0.stab,w1,aI,k1,hv1,k2,hix2,hpf2,ha,hv2,k3,hw];exact ⟨i+1,by show _-_<_-_;omega,_,_,_,_,rfl,aP @t2,aP @t3,aP @t4,aG,iY @g0 @f0,iY @g1 @f1,aE,hlt,hq⟩
  ·have hgt:(((xs.length:Nat):Int)<=40)=False:=eq_false aE
   rw [decide_eq_false (show ¬ xs.length<=40 by omega),Bool.false_and]at hq;exact PX @t2 @t7 hs.lX @hc @km @hgt @hq
 ·obtain rfl:i=xs.length:=Nat.le_antisymm hi hge
  rw [List.drop_length,List.all_nil,Bool.and_true]at hq;have hgt:(((xs.length:Nat):Int)<=40)=(xs.length<=40):=propext aE;exact SK @t2 @t7 hs.lX @aW @hq @hgt
theorem aKb {xs:List AV} {x:AV} {i M:Nat} (hi:i<M) (hd:xs.drop i=x::xs.drop (i+1)):(xs.take M).drop i=x::(xs.take M).drop (i+1):=by
 rw [List.drop_take,hd,List.drop_take,show M-i=(M-(i+1))+1 by omega,List.take_succ_cons]
abbrev vN (P ns:AV):List AV->Option AV:=VY (fun a b c=>a=P/\TSl (TFn ns) b/\∃ m:Nat,c=.int .i64 m/\m<=b.els.length) fun _ b c=>.bool ((b.els.take c.num.toNat).all (kS ns.els))
set_option maxHeartbeats 2000000 in
theorem MY {ns fs mm cs:AV} (h1:TSl eK ns) (h2:dE fs) (h3:cA mm) (h4:qW cs):Abs.Ok Tryz.prog 128 (vN (pg ns fs mm cs) ns):=ok3 fun a x b ⟨ea,hx,m,eb,hm⟩=>by
 subst ea;subst eb;have hup:=(dM _ ⟨_,_,_,_,rfl,h1,h2,h3,h4⟩:UnderE 0 (pg ns fs mm cs)/\_).1;have c1:=(dI _ h1).2;have c2:=(aL _ h2).2;have c3:=(tu_int _ h3).2;have c4:=(dL _ h4).2;have hux:=(fZ (T:=TFn ns) (fun a h=>(tk_fr a h.1).1) x hx).1;obtain ⟨xs,hs,hxs⟩:=hx;obtain ⟨xn,hn0,hnx⟩:=h1;have hl:=hs.2;rw [hs.els]at hm;refine aF (L:=[ent 111 (rE eK fun n=>.int .i64 (eL n))]) (elist_cons rAsks_ok.ent aD) (fun r=>(bif Nat.beq r 4 then [15] else [],[])) (by kernel_rfl) Tryz.func128 Tryz.ntmps128 Tryz.results128 rfl rfl (aA hup.und (aA hux.und (aA aT aC))) aJ ?_;rw [hs.els,hn0.els,show (AV.int .i64 (m:Nat)).num.toNat=m from Int.toNat_natCast m];refine NA @c1 @c2 @c3 @c4 ?_;refine aQ (fun i e=>∃ t n low o,e=⟨30,none,128,t,[],⟨n,low,o⟩,.no⟩/\t.val 1=x/\t.val 2=.int .i64 (m:Nat)/\t.val 3=.ptr 0 0 0/\t.val 7=.int .i64 (i:Nat)/\o.get 0=some (aY 0 [ns,fs,mm,cs])/\1<=n/\i<=m/\(xs.take m).all (kS xn)=((xs.take m).drop i).all (kS xn)) (fun i=>m-i) 0 ⟨_,_,_,_,rfl,aG,aG,aG,eP,aG,aE,Nat.zero_le _,rfl⟩ ?_;rintro i _ ⟨t,n,low,o,rfl,t1,t2,t3,t7,g0,hn,hi,hq⟩;have f0:=bT (show 0<n by omega)
 rcases Nat.lt_or_ge i m with hlt | hge
 ·obtain ⟨y,hDy,hm',hg,hd,hix,hw,hc⟩:=aZ (fun x h=>tk_fr.len h.1) hxs hl (show i<xs.length by omega)
  rw [aKb hlt hd,List.all_cons]at hq
  have hpf:=fun {d:Option AV}=>tk_fr.pf hDy.1 (d:=d)
  have hlt':(((i:Nat):Int)<((m:Nat):Int))=True:=eq_true aE;obtain ⟨hDy,hin⟩:=hDy;obtain ⟨_,ev,vv,rfl,⟨q,rfl⟩,he,hv⟩:=hDy;have ce:=(aH _ he).2;have cv:=(aH _ hv).2;rw [hn0.els]at hin;obtain ⟨z,hDz,_,hz,hix2,hpf2,_,_⟩:=mQ tk_node hnx hin;have hix2':∀ {j:IntKind} {d:Option AV},uP (some 4) xn (.int j q) d=some (.pf z):=hix2;have ha:rE eK (fun n=>.int .i64 (eL n)) [z]=_:=bX hDz;obtain ⟨xv,hsv,_⟩:=hv
  have ho:kS xn (.agg [.int .i64 q,ev,vv])=decide (((xv.length:Nat):Int)<eL z):=by
   have:eF xn q=z:=hz;simp only [kS,AV.fld,AV.num,List.getD_cons_zero,List.getD_cons_succ,hsv.els,this]
  rw [ho]at hq;by_cases k1:((xv.length:Nat):Int)<eL z
  ·have k1':(((xv.length:Nat):Int) ≥ eL z)=False:=eq_false aE
   rw [decide_eq_true k1,Bool.true_and]at hq;refine aKe @t1 @t2 @t3 @t7 @g0 @f0 @cT @cv hs.iX @hix @hlt' hsv.lX hsv.sX hn0.iX @hix2' @hpf2 @ha @k1' @hw ?_;exact ⟨i+1,by show _-_<_-_;omega,_,_,_,_,rfl,aP @t1,aP @t2,aP @t3,aG,by simp +decide only [g0],aE,hlt,hq⟩
  ·have k1':(((xv.length:Nat):Int) ≥ eL z)=True:=eq_true aE
   have k2:(eL z<=((xv.length:Nat):Int))=True:=eq_true aE;rw [decide_eq_false k1,Bool.false_and]at hq;exact aKh @t1 @t2 @t3 @t7 @g0 @f0 @cT @cv hs.iX @hix @hlt' hsv.lX hsv.sX hn0.iX @hix2' @hpf2 @ha @k1' @hq
 ·obtain rfl:i=m:=Nat.le_antisymm hi hge
  rw [List.drop_eq_nil_of_le (by simp;omega),List.all_nil]at hq;have hlt':(((i:Nat):Int)<((i:Nat):Int))=False:=eq_false aE;exact az4 @t2 @t7 @hlt' @hq
end
end
end Go.Proofs.YtifmdaalhclhgaaGreat
