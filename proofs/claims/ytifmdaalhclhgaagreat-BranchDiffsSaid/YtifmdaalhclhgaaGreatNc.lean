/-
  The program of meanings: worlds as they are defined.
-/
import Derived.Test.YtifmdaalhclhgaaGreatNa
set_option linter.unusedVariables false
set_option linter.unusedSimpArgs false
namespace Go.Proofs.YtifmdaalhclhgaaGreat
open Go.Abs Go Go.Abs.TryzF
noncomputable section
set_option maxRecDepth 10000
def gA:List AV->Option AV
 | [.int .i64 n,.int .i64 l,.int .i64 h]=>some (.bool (inR n l h))
 | _=>none
theorem aI {n l h:Int}:gA [.int .i64 n,.int .i64 l,.int .i64 h]=some (.bool (inR n l h)):=rfl
def tQ:List AV->Option AV
 | [.int .i64 n]=>some (.bool (nA n))
 | _=>none
theorem pW {n:Int}:tQ [.int .i64 n]=some (.bool (nA n)):=rfl
theorem within_ok:Abs.Ok Tryz.prog 149 gA:=by
 intro args v hg;unfold gA at hg;split at hg<;>cases hg;rename_i n l h;refine aE (L:=[]) aF aH (by kernel_rfl) Tryz.func149 Tryz.ntmps149 Tryz.results149 rfl rfl (aA aP (aA aP (aA aP aD))) aG ?_;by_cases h1:l<=n
 ·simp +contextual +decide (maxSteps:=1000000) only [↓ wP,wQ,wS,h1]
  simp [inR,h1]
 ·simp +contextual +decide (maxSteps:=1000000) only [↓ wP,wQ,wS,h1]
  simp [inR,h1]
theorem integer_ok:Abs.Ok Tryz.prog 182 tQ:=by
 intro args v hg;unfold tQ at hg;split at hg<;>cases hg;rename_i n;refine aE (L:=[ent 149 gA]) (elist_cons within_ok.ent aF) aH (by kernel_rfl) Tryz.func182 Tryz.ntmps182 Tryz.results182 rfl rfl (aA aP aD) aG ?_;simp +contextual +decide (maxSteps:=1000000) only [↓ wP,wQ,wS,aI];rfl
theorem bP {n:Nat} (h:n<=9223372036854775807):IntKind.i64.wrap ((n:Int)-1)=(n:Int)-1:=IntWalk.i64_in _ (by omega)
structure RW (ns fs mm cs os ts us is uu:AV):Prop where
 ns:TSl eA ns
 fs:fG fs
 mm:cL mm
 cs:oX cs
 os:TSl kT os
 ts:fG ts
 us:TSl lX us
 is:fG is
 uu:cL uu
abbrev rn (ns fs mm cs os ts us is uu:AV):AV:=.pf (.agg [ns,fs,mm,cs,os,ts,us,is,uu])
section
variable {ns fs mm cs os ts us is uu:AV}
theorem RW.und (h:RW ns fs mm cs os ts us is uu):UnderE 0 (rn ns fs mm cs os ts us is uu):=bJ (fN fun x hx=>by
 simp at hx
 rcases hx with rfl | rfl | rfl | rfl | rfl | rfl | rfl | rfl | rfl
 ·exact (cM _ h.ns).1
 ·exact (aN _ h.fs).1
 ·exact (tu_int _ h.mm).1
 ·exact (cT _ h.cs).1
 ·exact (gC _ h.os).1
 ·exact (aN _ h.ts).1
 ·exact (cR _ h.us).1
 ·exact (aN _ h.is).1
 ·exact (tu_int _ h.uu).1)
theorem RW.cells (h:RW ns fs mm cs os ts us is uu):ns.isCell=true/\fs.isCell=true/\mm.isCell=true/\cs.isCell=true/\os.isCell=true/\ts.isCell=true/\us.isCell=true/\is.isCell=true/\uu.isCell=true:=
 ⟨(cM _ h.ns).2,(aN _ h.fs).2,(tu_int _ h.mm).2,(cT _ h.cs).2,(gC _ h.os).2,(aN _ h.ts).2,(cR _ h.us).2,(aN _ h.is).2,(tu_int _ h.uu).2⟩
theorem HM {nf no k n:Int}:mN nf no (.agg [.int .i64 k,.int .i64 n])=if k=1 then nA n else if k=2 then inR n 0 1 else if k=3 then decide (n=0) else if k=4 then inR n 0 (nf-1) else if k=5 then inR n 0 (no-1) else false:=rfl
set_option maxHeartbeats 1000000 in
theorem VV (h:RW ns fs mm cs os ts us is uu) (x:AV) (hx:vC x):Abs.Returns Tryz.prog 232 [rn ns fs mm cs os ts us is uu,x] (.bool (mN fs.els.length os.els.length x)):=by
 have hux:=(tk_val x hx).1;obtain ⟨_,_,rfl,⟨k,rfl⟩,⟨n,rfl⟩⟩:=hx;obtain ⟨xf,hf,_⟩:=h.fs;obtain ⟨xo,ho,_⟩:=h.os;obtain ⟨c1,c2,c3,c4,c5,c6,c7,c8,c9⟩:=h.cells;have w1:=bP hf.2;have w2:=bP ho.2;refine aE (L:=[ent 149 gA,ent 182 tQ]) (elist_cons within_ok.ent (elist_cons integer_ok.ent aF)) (fun r=>(bif Nat.beq r 9 then [9] else bif Nat.beq r 11 then [9] else [],[])) (by kernel_rfl) Tryz.func232 Tryz.ntmps232 Tryz.results232 rfl rfl (aA h.und.und (aA hux.und aD)) aG ?_;rw [hf.els,ho.els,HM];by_cases h1:k=1
 ·subst h1;simp +contextual +decide (maxSteps:=1000000) only [↓ wP,wQ,tf,Nat.reduceAdd,wS,pW]
 by_cases h2:k=2
 ·subst h2;simp +contextual +decide (maxSteps:=1000000) only [↓ wP,wQ,tf,Nat.reduceAdd,wS,aI]
 by_cases h3:k=3
 ·subst h3;simp +contextual +decide (maxSteps:=1000000) only [↓ wP,wQ,tf,Nat.reduceAdd,wS]
 by_cases h4:k=4
 ·subst h4;simp +contextual +decide (maxSteps:=1000000) only [↓ wP,wQ,tf,Nat.reduceAdd,wS,aI,hf.len,hf.stab,w1,c2]
 by_cases h5:k=5
 ·subst h5;simp +contextual +decide (maxSteps:=1000000) only [↓ wP,wQ,tf,Nat.reduceAdd,wS,aI,ho.len,ho.stab,w2,c5]
 simp +contextual +decide (maxSteps:=1000000) only [↓ wP,wQ,tf,Nat.reduceAdd,wS,h1,h2,h3,h4,h5]
end
theorem yX (k:Int):k=6∨k=9∨k=10∨k=11∨k=12∨k=13∨k=18∨k=22∨k=14∨k=7∨k=8∨k=15∨k=16∨k=17∨k=19∨k=20∨k=23∨k=24∨k=26∨
 (k≠6/\k≠9/\k≠10/\k≠11/\k≠12/\k≠13/\k≠18/\k≠22/\k≠14/\k≠7/\k≠8/\k≠15/\k≠16/\k≠17/\k≠19/\k≠20/\k≠23/\k≠24/\k≠26):=by omega
set_option maxHeartbeats 4000000 in
theorem asks_ok:Abs.Ok Tryz.prog 252 (pE eA fun n=>.int .i64 (eB n)):=sW fun x hx=>by
 have hux:=(tk_node x hx).1;obtain ⟨_,_,ki,pa,rfl,⟨k,rfl⟩,⟨n,rfl⟩,hk,hp⟩:=hx;have ck:=(aN _ hk).2;have cp:=(eT _ hp).2;obtain ⟨xs,hks,_⟩:=hk;refine aE (L:=[]) aF aH (by kernel_rfl) Tryz.func252 Tryz.ntmps252 Tryz.results252 rfl rfl (aA hux.und aD) aP ?_
 rcases yX k with rfl | rfl | rfl | rfl | rfl | rfl | rfl | rfl | rfl | rfl | rfl | rfl | rfl | rfl | rfl | rfl | rfl | rfl | rfl | h
 case inr.inr.inr.inr.inr.inr.inr.inr.inl=>simp +contextual +decide (maxSteps:=1000000) only [↓ wP,wQ,tf,Nat.reduceAdd,wS,ck,cp,hks.len];simp [eB,AV.fld,AV.num,hks.els]
 case inr.inr.inr.inr.inr.inr.inr.inr.inr.inr.inr.inr.inr.inr.inr.inr.inr.inr.inr=>simp +contextual +decide (maxSteps:=1000000) only [↓ wP,wQ,tf,Nat.reduceAdd,wS,ck,cp,h];simp [eB,AV.fld,AV.num,h]
 all_goals simp +contextual +decide (maxSteps:=1000000) only [↓ wP,wQ,tf,Nat.reduceAdd,wS,ck,cp];rfl
abbrev qS (fv:AV) (p:AV->Bool):List AV->Option AV:=oY (fun a b=>fV a/\b=fv) fun a _=>.bool (a.els.all p)
section
variable {ns fs mm cs os ts us is uu:AV}
abbrev oA (r:AV):AV:=.func (.func 232) [r] []
abbrev EB (r:AV):AV:=.func (.func 281) [r] []
abbrev VW (r:AV):AV:=.func (.func 282) [r] []
theorem mZ {f:FuncId} {r:AV} (h:UnderE 0 r):UnderE 0 (.func (.func f) [r] []):=bV (by intro x hx;simp at hx;subst hx;exact h) (fun _ h=>nomatch h)
theorem OL (h:RW ns fs mm cs os ts us is uu):Abs.Ok Tryz.prog 231 (qS (oA (rn ns fs mm cs os ts us is uu)) (mN fs.els.length os.els.length)):=
 ok2 fun a b ⟨ha,e⟩=>by subst e;exact aBh (fun _ h=>h) _ (mZ h.und) (fun x hx=>VV h x hx) ha
set_option maxHeartbeats 1000000 in
theorem VX (h:RW ns fs mm cs os ts us is uu) (x:AV) (hx:ON x):Abs.Returns Tryz.prog 281 [rn ns fs mm cs os ts us is uu,x] (.bool (VZ ns.els fs.els.length os.els.length x)):=by
 have hux:=(tk_fr x hx).1;obtain ⟨_,e,v,rfl,⟨n,rfl⟩,he,hv⟩:=hx;have ce:=(aM _ he).2;have cv:=(aM _ hv).2;obtain ⟨xn,hn,hnx⟩:=h.ns;obtain ⟨c1,c2,c3,c4,c5,c6,c7,c8,c9⟩:=h.cells;have w1:=bP hn.2;have a1:qS (oA (rn ns fs mm cs os ts us is uu)) (mN fs.els.length os.els.length) [e,oA (rn ns fs mm cs os ts us is uu)]=_:=sg2_eq ⟨he,rfl⟩;have a2:qS (oA (rn ns fs mm cs os ts us is uu)) (mN fs.els.length os.els.length) [v,oA (rn ns fs mm cs os ts us is uu)]=_:=sg2_eq ⟨hv,rfl⟩;obtain ⟨xe,hse,_⟩:=he;obtain ⟨xv,hsv,_⟩:=hv;refine aE (L:=[ent 149 gA,ent 252 (pE eA fun n=>.int .i64 (eB n)),ent 231 (qS (oA (rn ns fs mm cs os ts us is uu)) (mN fs.els.length os.els.length))]) (elist_cons within_ok.ent (elist_cons asks_ok.ent (elist_cons (OL h).ent aF))) (fun r=>(bif Nat.beq r 1 then [9,29,37,44] else [],[])) (by kernel_rfl) Tryz.func281 Tryz.ntmps281 Tryz.results281 rfl rfl (aA h.und.und (aA hux.und aD)) aG ?_
 have hfr:VZ ns.els fs.els.length os.els.length (.agg [.int .i64 n,e,v])=(inR n 0 ((xn.length:Int)-1)&&(decide (((xe.length:Nat):Int)<=30)&&xe.all (mN fs.els.length os.els.length))&&(decide (((xv.length:Nat):Int)<=eB (dV xn n))&&xv.all (mN fs.els.length os.els.length))):=by
  rw [hn.els];simp only [VZ,eP,AV.fld,AV.num,List.getD_cons_zero,List.getD_cons_succ,hse.els,hsv.els]
 rw [hfr];rw [hse.els]at a1;rw [hsv.els]at a2
 cases k1:inR n 0 ((xn.length:Int)-1) with
 | false=>simp +contextual +decide (maxSteps:=1000000) only [↓ wP,wQ,tf,Nat.reduceAdd,wS,aI,hn.len,hn.stab,w1,c1,ce,cv,k1]
 | true=>
   have hb:=k1;simp only [inR,Bool.and_eq_true,decide_eq_true_eq]at hb
   have hlt:n.toNat<xn.length:=by omega
   have hg:=List.getElem?_eq_getElem hlt
   have hat:dV xn n=xn[n.toNat]:=by simp [dV,List.getD_eq_getElem?_getD,hg]
   have hD:=hnx _ (List.getElem_mem hlt);rw [hat];generalize xn[n.toNat]=y at *
   have hix:=fun {q d}=>EF hb.1 hg (tk_node.len hD) (q:=q) (d:=d)
   have hpf:=fun {d}=>tk_node.pf hD (d:=d)
   have ha:pE eA (fun n=>.int .i64 (eB n)) [y]=_:=bS hD;by_cases k2:((xe.length:Nat):Int)<=30
   ·by_cases k3:((xv.length:Nat):Int)<=eB y
    ·cases k4:xe.all (mN fs.els.length os.els.length) with
     | false=>simp +contextual +decide (maxSteps:=1000000) only [↓ wP,wQ,tf,Nat.reduceAdd,wS,aI,hn.len,hn.stab,hn.idx,hse.len,hse.stab,hsv.len,hsv.stab,w1,c1,ce,cv,k1,hix,hpf,ha,k2,k3,a1,k4]
     | true=>simp +contextual +decide (maxSteps:=1000000) only [↓ wP,wQ,tf,Nat.reduceAdd,wS,aI,hn.len,hn.stab,hn.idx,hse.len,hse.stab,hsv.len,hsv.stab,w1,c1,ce,cv,k1,hix,hpf,ha,k2,k3,a1,k4,a2]
    ·simp +contextual +decide (maxSteps:=1000000) only [↓ wP,wQ,tf,Nat.reduceAdd,wS,aI,hn.len,hn.stab,hn.idx,hse.len,hse.stab,hsv.len,hsv.stab,w1,c1,ce,cv,k1,hix,hpf,ha,k2,k3]
   ·simp +contextual +decide (maxSteps:=1000000) only [↓ wP,wQ,tf,Nat.reduceAdd,wS,aI,hn.len,hn.stab,hse.len,hse.stab,w1,c1,ce,cv,k1,k2]
end
section
variable {ns fs mm cs os ts us is uu:AV}
def TFn (ns x:AV):Prop:=ON x/\inR (x.fld 0).num 0 ((ns.els.length:Int)-1)=true
set_option maxHeartbeats 1000000 in
theorem aBb (h:RW ns fs mm cs os ts us is uu) (x:AV) (hx:TFn ns x):Abs.Returns Tryz.prog 282 [rn ns fs mm cs os ts us is uu,x] (.bool (jQ ns.els x)):=by
 obtain ⟨hx,hin⟩:=hx;have hux:=(tk_fr x hx).1;obtain ⟨_,e,v,rfl,⟨n,rfl⟩,he,hv⟩:=hx;have ce:=(aM _ he).2;have cv:=(aM _ hv).2;obtain ⟨xn,hn,hnx⟩:=h.ns;obtain ⟨c1,c2,c3,c4,c5,c6,c7,c8,c9⟩:=h.cells;obtain ⟨xv,hsv,_⟩:=hv;refine aE (L:=[ent 252 (pE eA fun n=>.int .i64 (eB n))]) (elist_cons asks_ok.ent aF) (fun r=>(bif Nat.beq r 1 then [12] else [],[])) (by kernel_rfl) Tryz.func282 Tryz.ntmps282 Tryz.results282 rfl rfl (aA h.und.und (aA hux.und aD)) aG ?_
 have hfr:jQ ns.els (.agg [.int .i64 n,e,v])=decide (((xv.length:Nat):Int)<eB (dV xn n)):=by
  rw [hn.els];simp only [jQ,AV.fld,AV.num,List.getD_cons_zero,List.getD_cons_succ,hsv.els]
 rw [hfr];rw [hn.els]at hin
 have hb:0<=n/\n<=(xn.length:Int)-1:=by simpa [inR,AV.fld,AV.num] using hin
 have hlt:n.toNat<xn.length:=by omega
 have hg:=List.getElem?_eq_getElem hlt
 have hat:dV xn n=xn[n.toNat]:=by simp [dV,List.getD_eq_getElem?_getD,hg]
 have hD:=hnx _ (List.getElem_mem hlt);rw [hat];generalize xn[n.toNat]=y at *
 have hix:=fun {q d}=>EF hb.1 hg (tk_node.len hD) (q:=q) (d:=d)
 have hpf:=fun {d}=>tk_node.pf hD (d:=d)
 have ha:pE eA (fun n=>.int .i64 (eB n)) [y]=_:=bS hD;simp +contextual +decide (maxSteps:=1000000) only [↓ wP,wQ,tf,Nat.reduceAdd,wS,hn.idx,hsv.len,hsv.stab,c1,ce,cv,hix,hpf,ha]
abbrev BU (ns fs os r:AV):List AV->Option AV:=oY (fun a b=>(sK a/\b=EB r)∨(TSl (TFn ns) a/\b=VW r)) fun a b=>.bool (@ite _ (b=EB r) (Classical.propDecidable _) (a.els.all (VZ ns.els fs.els.length os.els.length)) (a.els.all (jQ ns.els)))
theorem OM {r:AV}:VW r≠EB r:=by
 intro h;injection h with h1;injection h1 with h1;revert h1;decide
theorem VY (h:RW ns fs mm cs os ts us is uu):Abs.Ok Tryz.prog 280 (BU ns fs os (rn ns fs mm cs os ts us is uu)):=
 ok2 fun a b hab=>by
  rcases hab with ⟨ha,e⟩ | ⟨ha,e⟩
  ·subst e;rw [if_pos rfl];exact WL (fun _ h=>h) _ (mZ h.und) (fun x hx=>VX h x hx) ha
  ·subst e;rw [if_neg OM];exact WL (fun _ h=>h.1) _ (mZ h.und) (fun x hx=>aBb h x hx) ha
def fT (ns:List AV) (nf no:Int) (l:List AV) (last:Int):Bool:=nB ns nf no l&&(l.take (max 0 ((l.length:Int)-last)).toNat).all (jQ ns)
theorem tR {ns:List AV} {nf no:Int} {x:AV} (h:VZ ns nf no x=true):inR (x.fld 0).num 0 ((ns.length:Int)-1)=true:=by
 simp only [VZ,Bool.and_eq_true]at h;exact h.1.1
set_option maxHeartbeats 1000000 in
theorem QR (h:RW ns fs mm cs os ts us is uu) (a:AV) (ha:sK a) (last:Int) (h0:0<=last) (h1:last<=1):Abs.Returns Tryz.prog 233 [rn ns fs mm cs os ts us is uu,a,.int .i64 last] (.bool (fT ns.els fs.els.length os.els.length a.els last)):=by
 have hua:=(cJ a ha).1
 have a1:BU ns fs os (rn ns fs mm cs os ts us is uu) [a,EB (rn ns fs mm cs os ts us is uu)]=some (.bool (a.els.all (VZ ns.els fs.els.length os.els.length))):=by rw [BU,sg2_eq (.inl ⟨ha,rfl⟩),if_pos rfl]
 obtain ⟨xs,hs,hx⟩:=ha;have hl:=hs.2;refine aE (L:=[ent 280 (BU ns fs os (rn ns fs mm cs os ts us is uu))]) (elist_cons (VY h).ent aF) aH (by kernel_rfl) Tryz.func233 Tryz.ntmps233 Tryz.results233 rfl rfl (aA h.und.und (aA hua.und (aA aP aD))) aG ?_;rw [hs.els]at a1 ⊢;by_cases k1:((xs.length:Nat):Int)<=40
 ·have k1':xs.length<=40:=by omega
  cases k2:xs.all (VZ ns.els fs.els.length os.els.length) with
  | false=>simp +contextual +decide (maxSteps:=1000000) only [↓ wP,wQ,tf,wS,hs.len,k1,a1,k2];simp [fT,nB,k2]
  | true=>
    have w1:IntKind.i64.wrap (((xs.length:Nat):Int)-last)=((xs.length:Nat):Int)-last:=IntWalk.i64_in _ (by omega);obtain ⟨b,hb,hsl⟩:=hs.upto (k:=3) (fun x hm=>tk_fr.len (hx x hm)) (n:=max 0 (((xs.length:Nat):Int)-last)) (by omega) (by omega)
    have hbt:TSl (TFn ns) b:=⟨_,hb,fun x hm=>⟨hx x (List.mem_of_mem_take hm),tR (List.all_eq_true.1 k2 x (List.mem_of_mem_take hm))⟩⟩
    have a2:BU ns fs os (rn ns fs mm cs os ts us is uu) [b,VW (rn ns fs mm cs os ts us is uu)]=some (.bool (b.els.all (jQ ns.els))):=by rw [BU,sg2_eq (.inr ⟨hbt,rfl⟩),if_neg OM]
    rw [hb.els]at a2
    have hm:(if ((xs.length:Nat):Int)-last > 0 then ((xs.length:Nat):Int)-last else 0)=max 0 (((xs.length:Nat):Int)-last):=by split<;>omega
    simp +contextual +decide (maxSteps:=1000000) only [↓ wP,wQ,tf,wS,hs.len,k1,a1,k2,w1,WQ,hm,hsl,a2];simp [fT,nB,k1',k2]
 ·simp +contextual +decide (maxSteps:=1000000) only [↓ wP,wQ,tf,wS,hs.len,k1]
  have:¬ xs.length<=40:=by omega
  simp [fT,nB,this]
end
section
variable {ns fs mm cs os ts us is uu:AV}
def lD (ns:List AV) (nf no:Int) (n:Int) (vs fs:List AV):Bool:=
 if n=0 then !(decide (1<(vs.length:Int))||(decide ((fs.length:Int)=0)&&decide ((vs.length:Int)=0)))&&fT ns nf no fs (1-(vs.length:Int))
 else if n=1 then decide ((vs.length:Int)=1)&&decide ((fs.length:Int)=0)
 else if n=2 then decide ((vs.length:Int)=0)&&decide ((fs.length:Int)=0) else if n=3 then decide ((vs.length:Int)=0)&&decide ((fs.length:Int)=0)
 else if n=4 then decide ((vs.length:Int)=0)&&decide ((fs.length:Int)=0) else false
def kA (ns cs:List AV) (nf no:Int) (k n:Int) (vs fs:List AV):Bool:=
 vs.all (mN nf no)&&(
 if k=1 then decide ((fs.length:Int)=0)&&inR n 0 ((cs.length:Int)-1)&&decide ((vs.length:Int)=((cs.getD n.toNat .top).fld 1).num)
 else if k=2 then decide ((fs.length:Int)=0)&&inR n 0 ((ns.length:Int)-1)&&decide (((dV ns n).fld 0).num=5)&&decide ((vs.length:Int)<=30)
 else if k=3 then decide ((fs.length:Int)=0)&&decide (n=0)&&decide ((vs.length:Int)=1)
 else if k=4 then decide ((fs.length:Int)=0)&&decide (n=0)&&decide ((vs.length:Int)<=4)
 else if k=5 then decide (n=0)&&decide ((vs.length:Int)=0)&&decide (0<(fs.length:Int))&&fT ns nf no fs 0&&decide (((dV ns ((fs.getD 0 .top).fld 0).num).fld 0).num=26)
 else if k=6 then lD ns nf no n vs fs else false)
def xK (ns fs os r:AV):List AV->Option AV:=QV (fun a b c=>a=r/\sK b/\∃ l,c=.int .i64 l/\0<=l/\l<=1) fun _ b c=>.bool (fT ns.els fs.els.length os.els.length b.els c.num)
theorem yY (h:RW ns fs mm cs os ts us is uu):Abs.Ok Tryz.prog 233 (xK ns fs os (rn ns fs mm cs os ts us is uu)):=
 ok3 fun a b c ⟨e,hb,l,e',h0,h1⟩=>by subst e;subst e';exact QR h b hb l h0 h1
theorem yZ {ns fs os r b:AV} {l:Int} (hb:sK b) (h0:0<=l) (h1:l<=1):xK ns fs os r [r,b,.int .i64 l]=some (.bool (fT ns.els fs.els.length os.els.length b.els l)):=jE ⟨rfl,hb,l,rfl,h0,h1⟩
set_option maxHeartbeats 2000000 in
theorem aBc (h:RW ns fs mm cs os ts us is uu) (k n:Int) (vs gs:AV) (hv:fV vs) (hg:sK gs):
 Abs.Returns Tryz.prog 234 [rn ns fs mm cs os ts us is uu,.agg [.int .i64 k,.int .i64 n,vs,gs]] (.bool (lD ns.els fs.els.length os.els.length n vs.els gs.els)):=by
 have huo:UnderE 0 (.agg [.int .i64 k,.int .i64 n,vs,gs]):=(tk_ob _ ⟨_,_,_,_,rfl,⟨_,rfl⟩,⟨_,rfl⟩,hv,hg⟩).1;have cv:=(aM _ hv).2;have cg:=(cJ _ hg).2;obtain ⟨xv,hsv,_⟩:=hv
 have hf:=fun {l}=>yZ (ns:=ns) (fs:=fs) (os:=os) (r:=rn ns fs mm cs os ts us is uu) (l:=l) hg
 obtain ⟨xg,hsg,_⟩:=hg;have hl:=hsv.2;rw [hsv.els,hsg.els];rw [hsg.els]at hf;refine aE (L:=[ent 233 (xK ns fs os (rn ns fs mm cs os ts us is uu))]) (elist_cons (yY h).ent aF) aH (by kernel_rfl) Tryz.func234 Tryz.ntmps234 Tryz.results234 rfl rfl (aA h.und.und (aA huo.und aD)) aG ?_;have hgt:(((xv.length:Nat):Int) > 1)=(1<((xv.length:Nat):Int)):=rfl;by_cases k0:n=0
 ·subst k0
  by_cases k1:1<((xv.length:Nat):Int)
  ·simp +contextual +decide (maxSteps:=1000000) only [↓ wP,wQ,tf,Nat.reduceAdd,wS,cv,cg,hsv.len,k1]
   simp +decide only [wT,lD,k1]
  ·have w1:IntKind.i64.wrap (1-((xv.length:Nat):Int))=1-((xv.length:Nat):Int):=IntWalk.i64_in _ (by omega)
   have hf:=hf (l:=1-((xv.length:Nat):Int)) (by omega) (by omega);by_cases k2:((xg.length:Nat):Int)=0
   ·by_cases k3:((xv.length:Nat):Int)=0
    ·simp +contextual +decide (maxSteps:=1000000) only [↓ wP,wQ,tf,Nat.reduceAdd,wS,cv,cg,hsv.len,hsg.len,k2,k3]
     simp +decide only [wT,lD,k2,k3]
    ·simp +contextual +decide (maxSteps:=1000000) only [↓ wP,wQ,tf,Nat.reduceAdd,wS,cv,cg,hsv.len,hsg.len,k1,k2,k3,w1,hf]
     simp +decide only [wT,lD,k1,k2,k3]
   ·simp +contextual +decide (maxSteps:=1000000) only [↓ wP,wQ,tf,Nat.reduceAdd,wS,cv,cg,hsv.len,hsg.len,k1,k2,w1,hf]
    simp +decide only [wT,lD,k1,k2]
 by_cases k1:n=1
 ·subst k1
  by_cases k3:((xv.length:Nat):Int)=1
  ·simp +contextual +decide (maxSteps:=1000000) only [↓ wP,wQ,tf,Nat.reduceAdd,wS,cv,cg,hsv.len,hsg.len,k3]
   simp +decide only [wT,lD,k3]
  ·simp +contextual +decide (maxSteps:=1000000) only [↓ wP,wQ,tf,Nat.reduceAdd,wS,cv,cg,hsv.len,k3]
   simp +decide only [wT,lD,k3]
 by_cases k2:n=2∨n=3∨n=4
 ·rcases k2 with rfl | rfl | rfl
  all_goals
   by_cases k3:((xv.length:Nat):Int)=0
   ·simp +contextual +decide (maxSteps:=1000000) only [↓ wP,wQ,tf,Nat.reduceAdd,wS,cv,cg,hsv.len,hsg.len,k3]
    simp +decide only [wT,lD,k3]
   ·simp +contextual +decide (maxSteps:=1000000) only [↓ wP,wQ,tf,Nat.reduceAdd,wS,cv,cg,hsv.len,k3]
    simp +decide only [wT,lD,k3]
 ·have e2:n≠2:=by omega
  have e3:n≠3:=by omega
  have e4:n≠4:=by omega
  simp +contextual +decide (maxSteps:=1000000) only [↓ wP,wQ,tf,Nat.reduceAdd,wS,cv,cg,k0,k1,e2,e3,e4];simp +decide only [wT,lD,k0,k1,e2,e3,e4]
end
end
end Go.Proofs.YtifmdaalhclhgaaGreat
