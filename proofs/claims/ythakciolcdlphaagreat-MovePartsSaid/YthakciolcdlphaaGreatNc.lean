/-
  The program of meanings: worlds as they are defined.
-/
import Derived.Test.YthakciolcdlphaaGreatNa
set_option linter.unusedVariables false
set_option linter.unusedSimpArgs false
namespace Go.Proofs.YthakciolcdlphaaGreat
open Go.Abs Go Go.Abs.TryzF
noncomputable section
set_option maxRecDepth 10000
def eZ:List AV->Option AV
 | [.int .i64 n,.int .i64 l,.int .i64 h]=>some (.bool (inR n l h))
 | _=>none
theorem aI {n l h:Int}:eZ [.int .i64 n,.int .i64 l,.int .i64 h]=some (.bool (inR n l h)):=rfl
def uQ:List AV->Option AV
 | [.int .i64 n]=>some (.bool (nZ n))
 | _=>none
theorem iG {n:Int}:uQ [.int .i64 n]=some (.bool (nZ n)):=rfl
theorem within_ok:Abs.Ok Tryz.prog 107 eZ:=by
 intro args v hg
 unfold eZ at hg
 split at hg<;>cases hg
 rename_i n l h
 refine aH (L:=[]) aG aN (by kernel_rfl) Tryz.func107 Tryz.ntmps107 Tryz.results107 rfl rfl (aC aT (aC aT (aC aT aF))) aJ ?_
 by_cases h1:l<=n
 ·simp +contextual +decide (maxSteps:=1000000) only [↓ wP,wQ,tf,Nat.reduceAdd,wS,reduceCtorEq,h1]
  simp [inR,h1]
 ·simp +contextual +decide (maxSteps:=1000000) only [↓ wP,wQ,tf,Nat.reduceAdd,wS,reduceCtorEq,h1]
  simp [inR,h1]
theorem integer_ok:Abs.Ok Tryz.prog 166 uQ:=by
 intro args v hg
 unfold uQ at hg
 split at hg<;>cases hg
 rename_i n
 refine aH (L:=[ent 107 eZ]) (elist_cons within_ok.ent aG) aN (by kernel_rfl) Tryz.func166 Tryz.ntmps166 Tryz.results166 rfl rfl (aC aT aF) aJ ?_
 simp +contextual +decide (maxSteps:=1000000) only [↓ wP,wQ,tf,Nat.reduceAdd,wS,reduceCtorEq,aI]
 rfl
theorem bT {n:Nat} (h:n<=9223372036854775807):IntKind.i64.wrap ((n:Int)-1)=(n:Int)-1:=IntWalk.i64_in _ (by omega)
structure RW (ns fs mm cs os ts us is uu:AV):Prop where
 ns:TSl dP ns
 fs:fI fs
 mm:cI mm
 cs:qB cs
 os:TSl sW os
 ts:fI ts
 us:TSl uT us
 is:fI is
 uu:cI uu
abbrev rn (ns fs mm cs os ts us is uu:AV):AV:=.pf (.agg [ns,fs,mm,cs,os,ts,us,is,uu])
section
variable {ns fs mm cs os ts us is uu:AV}
theorem RW.und (h:RW ns fs mm cs os ts us is uu):UnderE 0 (rn ns fs mm cs os ts us is uu):=jF (eM fun x hx=>by
 simp at hx
 rcases hx with rfl | rfl | rfl | rfl | rfl | rfl | rfl | rfl | rfl
 ·exact (dW _ h.ns).1
 ·exact (aR _ h.fs).1
 ·exact (tu_int _ h.mm).1
 ·exact (dT _ h.cs).1
 ·exact (nC _ h.os).1
 ·exact (aR _ h.ts).1
 ·exact (jN _ h.us).1
 ·exact (aR _ h.is).1
 ·exact (tu_int _ h.uu).1)
theorem RW.cells (h:RW ns fs mm cs os ts us is uu):ns.isCell=true/\fs.isCell=true/\mm.isCell=true/\cs.isCell=true/\os.isCell=true/\ts.isCell=true/\us.isCell=true/\is.isCell=true/\uu.isCell=true:=
 ⟨(dW _ h.ns).2,(aR _ h.fs).2,(tu_int _ h.mm).2,(dT _ h.cs).2,(nC _ h.os).2,(aR _ h.ts).2,(jN _ h.us).2,(aR _ h.is).2,(tu_int _ h.uu).2⟩
theorem JA {nf no k n:Int}:jC nf no (.agg [.int .i64 k,.int .i64 n])=if k=1 then nZ n else if k=2 then inR n 0 1 else if k=3 then decide (n=0) else if k=4 then inR n 0 (nf-1) else if k=5 then inR n 0 (no-1) else false:=rfl
set_option maxHeartbeats 1000000 in
theorem ZF (h:RW ns fs mm cs os ts us is uu) (x:AV) (hx:uS x):Abs.Returns Tryz.prog 231 [rn ns fs mm cs os ts us is uu,x] (.bool (jC fs.els.length os.els.length x)):=by
 have hux:=(tk_val x hx).1
 obtain ⟨_,_,rfl,⟨k,rfl⟩,⟨n,rfl⟩⟩:=hx
 obtain ⟨xf,hf,_⟩:=h.fs
 obtain ⟨xo,ho,_⟩:=h.os
 obtain ⟨c1,c2,c3,c4,c5,c6,c7,c8,c9⟩:=h.cells
 have w1:=bT hf.2
 have w2:=bT ho.2
 refine aH (L:=[ent 107 eZ,ent 166 uQ]) (elist_cons within_ok.ent (elist_cons integer_ok.ent aG)) (fun r=>(bif Nat.beq r 9 then [9] else bif Nat.beq r 11 then [9] else [],[])) (by kernel_rfl) Tryz.func231 Tryz.ntmps231 Tryz.results231 rfl rfl (aC h.und.und (aC hux.und aF)) aJ ?_
 rw [hf.els,ho.els,JA]
 by_cases h1:k=1
 ·subst h1;simp +contextual +decide (maxSteps:=1000000) only [↓ wP,wQ,tf,Nat.reduceAdd,wS,reduceCtorEq,aI,iG]
 by_cases h2:k=2
 ·subst h2;simp +contextual +decide (maxSteps:=1000000) only [↓ wP,wQ,tf,Nat.reduceAdd,wS,reduceCtorEq,aI,iG]
 by_cases h3:k=3
 ·subst h3;simp +contextual +decide (maxSteps:=1000000) only [↓ wP,wQ,tf,Nat.reduceAdd,wS,reduceCtorEq,aI,iG]
 by_cases h4:k=4
 ·subst h4;simp +contextual +decide (maxSteps:=1000000) only [↓ wP,wQ,tf,Nat.reduceAdd,wS,reduceCtorEq,aI,iG,hf.len,hf.stab,w1,c1,c2,c3,c4,c5,c6,c7,c8,c9]
 by_cases h5:k=5
 ·subst h5;simp +contextual +decide (maxSteps:=1000000) only [↓ wP,wQ,tf,Nat.reduceAdd,wS,reduceCtorEq,aI,iG,ho.len,ho.stab,w2,c1,c2,c3,c4,c5,c6,c7,c8,c9]
 simp +contextual +decide (maxSteps:=1000000) only [↓ wP,wQ,tf,Nat.reduceAdd,wS,reduceCtorEq,h1,h2,h3,h4,h5]
end
theorem AT (k:Int):k=6∨k=9∨k=10∨k=11∨k=12∨k=13∨k=18∨k=22∨k=14∨k=7∨k=8∨k=15∨k=16∨k=17∨k=19∨k=20∨k=23∨k=24∨k=26∨
 (k≠6/\k≠9/\k≠10/\k≠11/\k≠12/\k≠13/\k≠18/\k≠22/\k≠14/\k≠7/\k≠8/\k≠15/\k≠16/\k≠17/\k≠19/\k≠20/\k≠23/\k≠24/\k≠26):=by omega
set_option maxHeartbeats 4000000 in
theorem asks_ok:Abs.Ok Tryz.prog 213 (tB dP fun n=>.int .i64 (dQ n)):=yR fun x hx=>by
 have hux:=(tk_node x hx).1
 obtain ⟨_,_,ki,pa,rfl,⟨k,rfl⟩,⟨n,rfl⟩,hk,hp⟩:=hx
 have ck:=(aR _ hk).2
 have cp:=(eK _ hp).2
 obtain ⟨xs,hks,_⟩:=hk
 refine aH (L:=[]) aG aN (by kernel_rfl) Tryz.func213 Tryz.ntmps213 Tryz.results213 rfl rfl (aC hux.und aF) aT ?_
 rcases AT k with rfl | rfl | rfl | rfl | rfl | rfl | rfl | rfl | rfl | rfl | rfl | rfl | rfl | rfl | rfl | rfl | rfl | rfl | rfl | h
 case inr.inr.inr.inr.inr.inr.inr.inr.inl=>simp +contextual +decide (maxSteps:=1000000) only [↓ wP,wQ,tf,Nat.reduceAdd,wS,reduceCtorEq,ck,cp,hks.len,hks.stab];simp [dQ,AV.fld,AV.num,hks.els]
 case inr.inr.inr.inr.inr.inr.inr.inr.inr.inr.inr.inr.inr.inr.inr.inr.inr.inr.inr=>simp +contextual +decide (maxSteps:=1000000) only [↓ wP,wQ,tf,Nat.reduceAdd,wS,reduceCtorEq,ck,cp,h];simp [dQ,AV.fld,AV.num,h]
 all_goals simp +contextual +decide (maxSteps:=1000000) only [↓ wP,wQ,tf,Nat.reduceAdd,wS,reduceCtorEq,ck,cp];rfl
abbrev sC (fv:AV) (p:AV->Bool):List AV->Option AV:=wW (fun a b=>kB a/\b=fv) fun a _=>.bool (a.els.all p)
section
variable {ns fs mm cs os ts us is uu:AV}
abbrev oX (r:AV):AV:=.func (.func 231) [r] []
abbrev FX (r:AV):AV:=.func (.func 316) [r] []
abbrev ZG (r:AV):AV:=.func (.func 317) [r] []
theorem nY {f:FuncId} {r:AV} (h:UnderE 0 r):UnderE 0 (.func (.func f) [r] []):=hG (by intro x hx;simp at hx;subst hx;exact h) (fun _ h=>nomatch h)
theorem QS (h:RW ns fs mm cs os ts us is uu):Abs.Ok Tryz.prog 230 (sC (oX (rn ns fs mm cs os ts us is uu)) (jC fs.els.length os.els.length)):=
 ok2 fun a b ⟨ha,e⟩=>by subst e;exact aFf (fun _ h=>h) _ (nY h.und) (fun x hx=>ZF h x hx) ha
set_option maxHeartbeats 1000000 in
theorem ZH (h:RW ns fs mm cs os ts us is uu) (x:AV) (hx:ZJ x):Abs.Returns Tryz.prog 316 [rn ns fs mm cs os ts us is uu,x] (.bool (NQ ns.els fs.els.length os.els.length x)):=by
 have hux:=(tk_fr x hx).1
 obtain ⟨_,e,v,rfl,⟨n,rfl⟩,he,hv⟩:=hx
 have ce:=(tu_vals _ he).2
 have cv:=(tu_vals _ hv).2
 obtain ⟨xn,hn,hnx⟩:=h.ns
 obtain ⟨c1,c2,c3,c4,c5,c6,c7,c8,c9⟩:=h.cells
 have w1:=bT hn.2
 have a1:sC (oX (rn ns fs mm cs os ts us is uu)) (jC fs.els.length os.els.length) [e,oX (rn ns fs mm cs os ts us is uu)]=_:=sg2_eq ⟨he,rfl⟩
 have a2:sC (oX (rn ns fs mm cs os ts us is uu)) (jC fs.els.length os.els.length) [v,oX (rn ns fs mm cs os ts us is uu)]=_:=sg2_eq ⟨hv,rfl⟩
 obtain ⟨xe,hse,_⟩:=he
 obtain ⟨xv,hsv,_⟩:=hv
 refine aH (L:=[ent 107 eZ,ent 213 (tB dP fun n=>.int .i64 (dQ n)),ent 230 (sC (oX (rn ns fs mm cs os ts us is uu)) (jC fs.els.length os.els.length))]) (elist_cons within_ok.ent (elist_cons asks_ok.ent (elist_cons (QS h).ent aG))) (fun r=>(bif Nat.beq r 1 then [9,29,37,44] else [],[])) (by kernel_rfl) Tryz.func316 Tryz.ntmps316 Tryz.results316 rfl rfl (aC h.und.und (aC hux.und aF)) aJ ?_
 have hfr:NQ ns.els fs.els.length os.els.length (.agg [.int .i64 n,e,v])=(inR n 0 ((xn.length:Int)-1)&&(decide (((xe.length:Nat):Int)<=30)&&xe.all (jC fs.els.length os.els.length))&&(decide (((xv.length:Nat):Int)<=dQ (dM xn n))&&xv.all (jC fs.els.length os.els.length))):=by
  rw [hn.els];simp only [NQ,dX,AV.fld,AV.num,List.getD_cons_zero,List.getD_cons_succ,hse.els,hsv.els]
 rw [hfr]
 rw [hse.els]at a1
 rw [hsv.els]at a2
 cases k1:inR n 0 ((xn.length:Int)-1) with
 | false=>simp +contextual +decide (maxSteps:=1000000) only [↓ wP,wQ,tf,Nat.reduceAdd,wS,reduceCtorEq,aI,hn.len,hn.stab,w1,c1,c2,c3,c4,c5,c6,c7,c8,c9,ce,cv,k1]
 | true=>
   have hb:=k1
   simp only [inR,Bool.and_eq_true,decide_eq_true_eq]at hb
   have hlt:n.toNat<xn.length:=by omega
   have hg:=List.getElem?_eq_getElem hlt
   have hat:dM xn n=xn[n.toNat]:=by simp [dM,List.getD_eq_getElem?_getD,hg]
   have hD:=hnx _ (List.getElem_mem hlt)
   rw [hat]
   generalize xn[n.toNat]=y at *
   have hix:=fun {q d}=>GD hb.1 hg (tk_node.len hD) (q:=q) (d:=d)
   have hpf:=fun {d}=>tk_node.pf hD (d:=d)
   have ha:tB dP (fun n=>.int .i64 (dQ n)) [y]=_:=cR hD
   by_cases k2:((xe.length:Nat):Int)<=30
   ·by_cases k3:((xv.length:Nat):Int)<=dQ y
    ·cases k4:xe.all (jC fs.els.length os.els.length) with
     | false=>simp +contextual +decide (maxSteps:=1000000) only [↓ wP,wQ,tf,Nat.reduceAdd,wS,reduceCtorEq,aI,hn.len,hn.stab,hn.idx,hse.len,hse.stab,hsv.len,hsv.stab,w1,c1,c2,c3,c4,c5,c6,c7,c8,c9,ce,cv,k1,hix,hpf,ha,k2,k3,a1,k4]
     | true=>simp +contextual +decide (maxSteps:=1000000) only [↓ wP,wQ,tf,Nat.reduceAdd,wS,reduceCtorEq,aI,hn.len,hn.stab,hn.idx,hse.len,hse.stab,hsv.len,hsv.stab,w1,c1,c2,c3,c4,c5,c6,c7,c8,c9,ce,cv,k1,hix,hpf,ha,k2,k3,a1,k4,a2]
    ·simp +contextual +decide (maxSteps:=1000000) only [↓ wP,wQ,tf,Nat.reduceAdd,wS,reduceCtorEq,aI,hn.len,hn.stab,hn.idx,hse.len,hse.stab,hsv.len,hsv.stab,w1,c1,c2,c3,c4,c5,c6,c7,c8,c9,ce,cv,k1,hix,hpf,ha,k2,k3]
   ·simp +contextual +decide (maxSteps:=1000000) only [↓ wP,wQ,tf,Nat.reduceAdd,wS,reduceCtorEq,aI,hn.len,hn.stab,hn.idx,hse.len,hse.stab,w1,c1,c2,c3,c4,c5,c6,c7,c8,c9,ce,cv,k1,k2]
end
section
variable {ns fs mm cs os ts us is uu:AV}
def TFn (ns x:AV):Prop:=ZJ x/\inR (x.fld 0).num 0 ((ns.els.length:Int)-1)=true
set_option maxHeartbeats 1000000 in
theorem aEz (h:RW ns fs mm cs os ts us is uu) (x:AV) (hx:TFn ns x):Abs.Returns Tryz.prog 317 [rn ns fs mm cs os ts us is uu,x] (.bool (kC ns.els x)):=by
 obtain ⟨hx,hin⟩:=hx
 have hux:=(tk_fr x hx).1
 obtain ⟨_,e,v,rfl,⟨n,rfl⟩,he,hv⟩:=hx
 have ce:=(tu_vals _ he).2
 have cv:=(tu_vals _ hv).2
 obtain ⟨xn,hn,hnx⟩:=h.ns
 obtain ⟨c1,c2,c3,c4,c5,c6,c7,c8,c9⟩:=h.cells
 obtain ⟨xv,hsv,_⟩:=hv
 refine aH (L:=[ent 213 (tB dP fun n=>.int .i64 (dQ n))]) (elist_cons asks_ok.ent aG) (fun r=>(bif Nat.beq r 1 then [12] else [],[])) (by kernel_rfl) Tryz.func317 Tryz.ntmps317 Tryz.results317 rfl rfl (aC h.und.und (aC hux.und aF)) aJ ?_
 have hfr:kC ns.els (.agg [.int .i64 n,e,v])=decide (((xv.length:Nat):Int)<dQ (dM xn n)):=by
  rw [hn.els];simp only [kC,AV.fld,AV.num,List.getD_cons_zero,List.getD_cons_succ,hsv.els]
 rw [hfr]
 rw [hn.els]at hin
 have hb:0<=n/\n<=(xn.length:Int)-1:=by simpa [inR,AV.fld,AV.num] using hin
 have hlt:n.toNat<xn.length:=by omega
 have hg:=List.getElem?_eq_getElem hlt
 have hat:dM xn n=xn[n.toNat]:=by simp [dM,List.getD_eq_getElem?_getD,hg]
 have hD:=hnx _ (List.getElem_mem hlt)
 rw [hat]
 generalize xn[n.toNat]=y at *
 have hix:=fun {q d}=>GD hb.1 hg (tk_node.len hD) (q:=q) (d:=d)
 have hpf:=fun {d}=>tk_node.pf hD (d:=d)
 have ha:tB dP (fun n=>.int .i64 (dQ n)) [y]=_:=cR hD
 simp +contextual +decide (maxSteps:=1000000) only [↓ wP,wQ,tf,Nat.reduceAdd,wS,reduceCtorEq,hn.idx,hsv.len,hsv.stab,c1,c2,c3,c4,c5,c6,c7,c8,c9,ce,cv,hix,hpf,ha]
abbrev DS (ns fs os r:AV):List AV->Option AV:=wW (fun a b=>(AX a/\b=FX r)∨(TSl (TFn ns) a/\b=ZG r)) fun a b=>.bool (@ite _ (b=FX r) (Classical.propDecidable _) (a.els.all (NQ ns.els fs.els.length os.els.length)) (a.els.all (kC ns.els)))
theorem QT {r:AV}:ZG r≠FX r:=by
 intro h;injection h with h1;injection h1 with h1;revert h1;decide
theorem ZI (h:RW ns fs mm cs os ts us is uu):Abs.Ok Tryz.prog 315 (DS ns fs os (rn ns fs mm cs os ts us is uu)):=
 ok2 fun a b hab=>by
  rcases hab with ⟨ha,e⟩ | ⟨ha,e⟩
  ·subst e;rw [if_pos rfl];exact ZW (fun _ h=>h) _ (nY h.und) (fun x hx=>ZH h x hx) ha
  ·subst e;rw [if_neg QT];exact ZW (fun _ h=>h.1) _ (nY h.und) (fun x hx=>aEz h x hx) ha
def eJ (ns:List AV) (nf no:Int) (l:List AV) (last:Int):Bool:=nE ns nf no l&&(l.take (max 0 ((l.length:Int)-last)).toNat).all (kC ns)
theorem uR {ns:List AV} {nf no:Int} {x:AV} (h:NQ ns nf no x=true):inR (x.fld 0).num 0 ((ns.length:Int)-1)=true:=by
 simp only [NQ,Bool.and_eq_true]at h;exact h.1.1
set_option maxHeartbeats 1000000 in
theorem UA (h:RW ns fs mm cs os ts us is uu) (a:AV) (ha:AX a) (last:Int) (h0:0<=last) (h1:last<=1):Abs.Returns Tryz.prog 232 [rn ns fs mm cs os ts us is uu,a,.int .i64 last] (.bool (eJ ns.els fs.els.length os.els.length a.els last)):=by
 have hua:=(fC a ha).1
 have a1:DS ns fs os (rn ns fs mm cs os ts us is uu) [a,FX (rn ns fs mm cs os ts us is uu)]=some (.bool (a.els.all (NQ ns.els fs.els.length os.els.length))):=by rw [DS,sg2_eq (.inl ⟨ha,rfl⟩),if_pos rfl]
 obtain ⟨xs,hs,hx⟩:=ha
 have hl:=hs.2
 refine aH (L:=[ent 315 (DS ns fs os (rn ns fs mm cs os ts us is uu))]) (elist_cons (ZI h).ent aG) aN (by kernel_rfl) Tryz.func232 Tryz.ntmps232 Tryz.results232 rfl rfl (aC h.und.und (aC hua.und (aC aT aF))) aJ ?_
 rw [hs.els]at a1 ⊢
 by_cases k1:((xs.length:Nat):Int)<=40
 ·have k1':xs.length<=40:=by omega
  cases k2:xs.all (NQ ns.els fs.els.length os.els.length) with
  | false=>simp +contextual +decide (maxSteps:=1000000) only [↓ wP,wQ,tf,Nat.reduceAdd,wS,reduceCtorEq,hs.len,hs.stab,k1,a1,k2];simp [eJ,nE,k2]
  | true=>
    have w1:IntKind.i64.wrap (((xs.length:Nat):Int)-last)=((xs.length:Nat):Int)-last:=IntWalk.i64_in _ (by omega)
    obtain ⟨b,hb,hsl⟩:=hs.upto (k:=3) (fun x hm=>tk_fr.len (hx x hm)) (n:=max 0 (((xs.length:Nat):Int)-last)) (by omega) (by omega)
    have hbt:TSl (TFn ns) b:=⟨_,hb,fun x hm=>⟨hx x (List.mem_of_mem_take hm),uR (List.all_eq_true.1 k2 x (List.mem_of_mem_take hm))⟩⟩
    have a2:DS ns fs os (rn ns fs mm cs os ts us is uu) [b,ZG (rn ns fs mm cs os ts us is uu)]=some (.bool (b.els.all (kC ns.els))):=by rw [DS,sg2_eq (.inr ⟨hbt,rfl⟩),if_neg QT]
    rw [hb.els]at a2
    have hm:(if ((xs.length:Nat):Int)-last > 0 then ((xs.length:Nat):Int)-last else 0)=max 0 (((xs.length:Nat):Int)-last):=by split<;>omega
    simp +contextual +decide (maxSteps:=1000000) only [↓ wP,wQ,tf,Nat.reduceAdd,wS,reduceCtorEq,hs.len,hs.stab,k1,a1,k2,w1,aAc,hm,hsl,a2]
    simp [eJ,nE,k1',k2]
 ·simp +contextual +decide (maxSteps:=1000000) only [↓ wP,wQ,tf,Nat.reduceAdd,wS,reduceCtorEq,hs.len,hs.stab,k1]
  have:¬ xs.length<=40:=by omega
  simp [eJ,nE,this]
end
section
variable {ns fs mm cs os ts us is uu:AV}
def kP (ns:List AV) (nf no:Int) (n:Int) (vs fs:List AV):Bool:=
 if n=0 then !(decide (1<(vs.length:Int))||(decide ((fs.length:Int)=0)&&decide ((vs.length:Int)=0)))&&eJ ns nf no fs (1-(vs.length:Int))
 else if n=1 then decide ((vs.length:Int)=1)&&decide ((fs.length:Int)=0)
 else if n=2 then decide ((vs.length:Int)=0)&&decide ((fs.length:Int)=0) else if n=3 then decide ((vs.length:Int)=0)&&decide ((fs.length:Int)=0)
 else if n=4 then decide ((vs.length:Int)=0)&&decide ((fs.length:Int)=0) else false
def kA (ns cs:List AV) (nf no:Int) (k n:Int) (vs fs:List AV):Bool:=
 vs.all (jC nf no)&&(
 if k=1 then decide ((fs.length:Int)=0)&&inR n 0 ((cs.length:Int)-1)&&decide ((vs.length:Int)=((cs.getD n.toNat .top).fld 1).num)
 else if k=2 then decide ((fs.length:Int)=0)&&inR n 0 ((ns.length:Int)-1)&&decide (((dM ns n).fld 0).num=5)&&decide ((vs.length:Int)<=30)
 else if k=3 then decide ((fs.length:Int)=0)&&decide (n=0)&&decide ((vs.length:Int)=1)
 else if k=4 then decide ((fs.length:Int)=0)&&decide (n=0)&&decide ((vs.length:Int)<=4)
 else if k=5 then decide (n=0)&&decide ((vs.length:Int)=0)&&decide (0<(fs.length:Int))&&eJ ns nf no fs 0&&decide (((dM ns ((fs.getD 0 .top).fld 0).num).fld 0).num=26)
 else if k=6 then kP ns nf no n vs fs else false)
def zC (ns fs os r:AV):List AV->Option AV:=sg3 (fun a b c=>a=r/\AX b/\∃ l,c=.int .i64 l/\0<=l/\l<=1) fun _ b c=>.bool (eJ ns.els fs.els.length os.els.length b.els c.num)
theorem AU (h:RW ns fs mm cs os ts us is uu):Abs.Ok Tryz.prog 232 (zC ns fs os (rn ns fs mm cs os ts us is uu)):=
 ok3 fun a b c ⟨e,hb,l,e',h0,h1⟩=>by subst e;subst e';exact UA h b hb l h0 h1
theorem AW {ns fs os r b:AV} {l:Int} (hb:AX b) (h0:0<=l) (h1:l<=1):zC ns fs os r [r,b,.int .i64 l]=some (.bool (eJ ns.els fs.els.length os.els.length b.els l)):=oZ ⟨rfl,hb,l,rfl,h0,h1⟩
set_option maxHeartbeats 2000000 in
theorem aFa (h:RW ns fs mm cs os ts us is uu) (k n:Int) (vs gs:AV) (hv:kB vs) (hg:AX gs):
 Abs.Returns Tryz.prog 233 [rn ns fs mm cs os ts us is uu,.agg [.int .i64 k,.int .i64 n,vs,gs]] (.bool (kP ns.els fs.els.length os.els.length n vs.els gs.els)):=by
 have huo:UnderE 0 (.agg [.int .i64 k,.int .i64 n,vs,gs]):=(tk_ob _ ⟨_,_,_,_,rfl,⟨_,rfl⟩,⟨_,rfl⟩,hv,hg⟩).1
 have cv:=(tu_vals _ hv).2
 have cg:=(fC _ hg).2
 obtain ⟨xv,hsv,_⟩:=hv
 have hf:=fun {l}=>AW (ns:=ns) (fs:=fs) (os:=os) (r:=rn ns fs mm cs os ts us is uu) (l:=l) hg
 obtain ⟨xg,hsg,_⟩:=hg
 have hl:=hsv.2
 rw [hsv.els,hsg.els]
 rw [hsg.els]at hf
 refine aH (L:=[ent 232 (zC ns fs os (rn ns fs mm cs os ts us is uu))]) (elist_cons (AU h).ent aG) aN (by kernel_rfl) Tryz.func233 Tryz.ntmps233 Tryz.results233 rfl rfl (aC h.und.und (aC huo.und aF)) aJ ?_
 have hgt:(((xv.length:Nat):Int) > 1)=(1<((xv.length:Nat):Int)):=rfl
 by_cases k0:n=0
 ·subst k0
  by_cases k1:1<((xv.length:Nat):Int)
  ·simp +contextual +decide (maxSteps:=1000000) only [↓ wP,wQ,tf,Nat.reduceAdd,wS,reduceCtorEq,cv,cg,hsv.len,hsv.stab,k1]
   simp +decide only [wT,AV.fld,AV.num,kP,k1]
  ·have w1:IntKind.i64.wrap (1-((xv.length:Nat):Int))=1-((xv.length:Nat):Int):=IntWalk.i64_in _ (by omega)
   have hf:=hf (l:=1-((xv.length:Nat):Int)) (by omega) (by omega)
   by_cases k2:((xg.length:Nat):Int)=0
   ·by_cases k3:((xv.length:Nat):Int)=0
    ·simp +contextual +decide (maxSteps:=1000000) only [↓ wP,wQ,tf,Nat.reduceAdd,wS,reduceCtorEq,cv,cg,hsv.len,hsv.stab,hsg.len,hsg.stab,k1,k2,k3]
     simp +decide only [wT,AV.fld,AV.num,kP,k1,k2,k3]
    ·simp +contextual +decide (maxSteps:=1000000) only [↓ wP,wQ,tf,Nat.reduceAdd,wS,reduceCtorEq,cv,cg,hsv.len,hsv.stab,hsg.len,hsg.stab,k1,k2,k3,w1,hf]
     simp +decide only [wT,AV.fld,AV.num,kP,k1,k2,k3]
   ·simp +contextual +decide (maxSteps:=1000000) only [↓ wP,wQ,tf,Nat.reduceAdd,wS,reduceCtorEq,cv,cg,hsv.len,hsv.stab,hsg.len,hsg.stab,k1,k2,w1,hf]
    simp +decide only [wT,AV.fld,AV.num,kP,k1,k2]
 by_cases k1:n=1
 ·subst k1
  by_cases k3:((xv.length:Nat):Int)=1
  ·simp +contextual +decide (maxSteps:=1000000) only [↓ wP,wQ,tf,Nat.reduceAdd,wS,reduceCtorEq,cv,cg,hsv.len,hsv.stab,hsg.len,hsg.stab,k3]
   simp +decide only [wT,AV.fld,AV.num,kP,k3]
  ·simp +contextual +decide (maxSteps:=1000000) only [↓ wP,wQ,tf,Nat.reduceAdd,wS,reduceCtorEq,cv,cg,hsv.len,hsv.stab,hsg.len,hsg.stab,k3]
   simp +decide only [wT,AV.fld,AV.num,kP,k3]
 by_cases k2:n=2∨n=3∨n=4
 ·rcases k2 with rfl | rfl | rfl
  all_goals
   by_cases k3:((xv.length:Nat):Int)=0
   ·simp +contextual +decide (maxSteps:=1000000) only [↓ wP,wQ,tf,Nat.reduceAdd,wS,reduceCtorEq,cv,cg,hsv.len,hsv.stab,hsg.len,hsg.stab,k3]
    simp +decide only [wT,AV.fld,AV.num,kP,k3]
   ·simp +contextual +decide (maxSteps:=1000000) only [↓ wP,wQ,tf,Nat.reduceAdd,wS,reduceCtorEq,cv,cg,hsv.len,hsv.stab,hsg.len,hsg.stab,k3]
    simp +decide only [wT,AV.fld,AV.num,kP,k3]
 ·have e2:n≠2:=by omega
  have e3:n≠3:=by omega
  have e4:n≠4:=by omega
  simp +contextual +decide (maxSteps:=1000000) only [↓ wP,wQ,tf,Nat.reduceAdd,wS,reduceCtorEq,cv,cg,k0,k1,e2,e3,e4]
  simp +decide only [wT,AV.fld,AV.num,kP,k0,k1,e2,e3,e4]
end
end
end Go.Proofs.YthakciolcdlphaaGreat
