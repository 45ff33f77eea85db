/-
  The program of meanings: worlds as they are defined.
-/
import Derived.Test.YtifmdaalhclhgaaGreatNa
set_option linter.unusedVariables false
set_option linter.unusedSimpArgs false
namespace Go.Proofs.YtifmdaalhclhgaaGreat
open Go.Abs Go Go.Abs.TryzF
noncomputable section
set_option maxRecDepth 10000
def gP:List AV->Option AV
 | [.int .i64 n,.int .i64 l,.int .i64 h]=>some (.bool (inR n l h))
 | _=>none
theorem aI {n l h:Int}:gP [.int .i64 n,.int .i64 l,.int .i64 h]=some (.bool (inR n l h)):=rfl
def xI:List AV->Option AV
 | [.int .i64 n]=>some (.bool (oZ n))
 | _=>none
theorem sF {n:Int}:xI [.int .i64 n]=some (.bool (oZ n)):=rfl
theorem within_ok:Abs.Ok Tryz.prog 149 gP:=by
 intro args v hg;unfold gP at hg;split at hg<;>cases hg;rename_i n l h;refine aF (L:=[]) aD aN (by kernel_rfl) Tryz.func149 Tryz.ntmps149 Tryz.results149 rfl rfl (aA aT (aA aT (aA aT aC))) aJ ?_;by_cases h1:l<=n
 ·refine FJ @h1 ?_
  simp [inR,h1]
 ·refine FJ @h1 ?_
  simp [inR,h1]
theorem integer_ok:Abs.Ok Tryz.prog 182 xI:=by
 intro args v hg;unfold xI at hg;split at hg<;>cases hg;rename_i n;refine aF (L:=[ent 149 gP]) (elist_cons within_ok.ent aD) aN (by kernel_rfl) Tryz.func182 Tryz.ntmps182 Tryz.results182 rfl rfl (aA aT aC) aJ ?_;refine FJ @aI ?_;rfl
theorem cB {n:Nat} (h:n<=9223372036854775807):IntKind.i64.wrap ((n:Int)-1)=(n:Int)-1:=IntWalk.i64_in _ aE
structure RW (ns fs mm cs os ts us is uu:AV):Prop where
 ns:TSl eK ns
 fs:dE fs
 mm:cA mm
 cs:qW cs
 os:TSl fX os
 ts:dE ts
 us:TSl jY us
 is:dE is
 uu:cA uu
abbrev rn (ns fs mm cs os ts us is uu:AV):AV:=.pf (.agg [ns,fs,mm,cs,os,ts,us,is,uu])
section
variable {ns fs mm cs os ts us is uu:AV}
theorem RW.und (h:RW ns fs mm cs os ts us is uu):UnderE 0 (rn ns fs mm cs os ts us is uu):=kA (gC fun x hx=>by
 simp at hx
 rcases hx with rfl | rfl | rfl | rfl | rfl | rfl | rfl | rfl | rfl
 ·exact (dI _ h.ns).1
 ·exact (aL _ h.fs).1
 ·exact (tu_int _ h.mm).1
 ·exact (dL _ h.cs).1
 ·exact (cD _ h.os).1
 ·exact (aL _ h.ts).1
 ·exact (bJ _ h.us).1
 ·exact (aL _ h.is).1
 ·exact (tu_int _ h.uu).1)
theorem RW.cells (h:RW ns fs mm cs os ts us is uu):ns.isCell=true/\fs.isCell=true/\mm.isCell=true/\cs.isCell=true/\os.isCell=true/\ts.isCell=true/\us.isCell=true/\is.isCell=true/\uu.isCell=true:=
 ⟨(dI _ h.ns).2,(aL _ h.fs).2,(tu_int _ h.mm).2,(dL _ h.cs).2,(cD _ h.os).2,(aL _ h.ts).2,(bJ _ h.us).2,(aL _ h.is).2,(tu_int _ h.uu).2⟩
theorem MZ {nf no k n:Int}:oE nf no (.agg [.int .i64 k,.int .i64 n])=if k=1 then oZ n else if k=2 then inR n 0 1 else if k=3 then decide (n=0) else if k=4 then inR n 0 (nf-1) else if k=5 then inR n 0 (no-1) else false:=rfl
set_option maxHeartbeats 1000000 in
theorem aEk (h:RW ns fs mm cs os ts us is uu) (x:AV) (hx:oD x):Abs.Returns Tryz.prog 232 [rn ns fs mm cs os ts us is uu,x] (.bool (oE fs.els.length os.els.length x)):=by
 have hux:=(tk_val x hx).1;obtain ⟨_,_,rfl,⟨k,rfl⟩,⟨n,rfl⟩⟩:=hx;obtain ⟨xf,hf,_⟩:=h.fs;obtain ⟨xo,ho,_⟩:=h.os;obtain ⟨c1,c2,c3,c4,c5,c6,c7,c8,c9⟩:=h.cells;have w1:=cB hf.2;have w2:=cB ho.2;refine aF (L:=[ent 149 gP,ent 182 xI]) (elist_cons within_ok.ent (elist_cons integer_ok.ent aD)) (fun r=>(bif Nat.beq r 9 then [9] else bif Nat.beq r 11 then [9] else [],[])) (by kernel_rfl) Tryz.func232 Tryz.ntmps232 Tryz.results232 rfl rfl (aA h.und.und (aA hux.und aC)) aJ ?_;rw [hf.els,ho.els,MZ];by_cases h1:k=1
 ·subst h1;exact tN @sF
 by_cases h2:k=2
 ·subst h2;exact tN @aI
 by_cases h3:k=3
 ·subst h3;exact az0
 by_cases h4:k=4
 ·subst h4;exact DO @aI hf.lX hf.sX @w1 @c2
 by_cases h5:k=5
 ·subst h5;exact DO @aI ho.lX ho.sX @w2 @c5
 exact DO @h1 @h2 @h3 @h4 @h5
end
theorem DK (k:Int):k=6∨k=9∨k=10∨k=11∨k=12∨k=13∨k=18∨k=22∨k=14∨k=7∨k=8∨k=15∨k=16∨k=17∨k=19∨k=20∨k=23∨k=24∨k=26∨
 (k≠6/\k≠9/\k≠10/\k≠11/\k≠12/\k≠13/\k≠18/\k≠22/\k≠14/\k≠7/\k≠8/\k≠15/\k≠16/\k≠17/\k≠19/\k≠20/\k≠23/\k≠24/\k≠26):=by omega
set_option maxHeartbeats 4000000 in
theorem asks_ok:Abs.Ok Tryz.prog 252 (rE eK fun n=>.int .i64 (eL n)):=wD fun x hx=>by
 have hux:=(tk_node x hx).1;obtain ⟨_,_,ki,pa,rfl,⟨k,rfl⟩,⟨n,rfl⟩,hk,hp⟩:=hx;have ck:=(aL _ hk).2;have cp:=(fG _ hp).2;obtain ⟨xs,hks,_⟩:=hk;refine aF (L:=[]) aD aN (by kernel_rfl) Tryz.func252 Tryz.ntmps252 Tryz.results252 rfl rfl (aA hux.und aC) aT ?_
 rcases DK k with rfl | rfl | rfl | rfl | rfl | rfl | rfl | rfl | rfl | rfl | rfl | rfl | rfl | rfl | rfl | rfl | rfl | rfl | rfl | h
 case inr.inr.inr.inr.inr.inr.inr.inr.inl=>refine yQ @ck @cp hks.lX ?_;simp [eL,AV.fld,AV.num,hks.els]
 case inr.inr.inr.inr.inr.inr.inr.inr.inr.inr.inr.inr.inr.inr.inr.inr.inr.inr.inr=>refine yQ @ck @cp @h ?_;simp [eL,AV.fld,AV.num,h]
 all_goals refine ap2 @ck @cp ?_;rfl
abbrev tM (fv:AV) (p:AV->Bool):List AV->Option AV:=nP (fun a b=>dN a/\b=fv) fun a _=>.bool (a.els.all p)
section
variable {ns fs mm cs os ts us is uu:AV}
abbrev pZ (r:AV):AV:=.func (.func 232) [r] []
abbrev JF (r:AV):AV:=.func (.func 281) [r] []
abbrev aEl (r:AV):AV:=.func (.func 282) [r] []
theorem oY {f:FuncId} {r:AV} (h:UnderE 0 r):UnderE 0 (.func (.func f) [r] []):=fC (by intro x hx;simp at hx;subst hx;exact h) (fun _ h=>nomatch h)
theorem VT (h:RW ns fs mm cs os ts us is uu):Abs.Ok Tryz.prog 231 (tM (pZ (rn ns fs mm cs os ts us is uu)) (oE fs.els.length os.els.length)):=
 ok2 fun a b ⟨ha,e⟩=>by subst e;exact aKm (fun _ h=>h) _ (oY h.und) (fun x hx=>aEk h x hx) ha
set_option maxHeartbeats 1000000 in
theorem aEm (h:RW ns fs mm cs os ts us is uu) (x:AV) (hx:PY x):Abs.Returns Tryz.prog 281 [rn ns fs mm cs os ts us is uu,x] (.bool (frR ns.els fs.els.length os.els.length x)):=by
 have hux:=(tk_fr x hx).1;obtain ⟨_,e,v,rfl,⟨n,rfl⟩,he,hv⟩:=hx;have ce:=(aH _ he).2;have cv:=(aH _ hv).2;obtain ⟨xn,hn,hnx⟩:=h.ns;obtain ⟨c1,c2,c3,c4,c5,c6,c7,c8,c9⟩:=h.cells;have w1:=cB hn.2;have a1:tM (pZ (rn ns fs mm cs os ts us is uu)) (oE fs.els.length os.els.length) [e,pZ (rn ns fs mm cs os ts us is uu)]=_:=sg2_eq ⟨he,rfl⟩;have a2:tM (pZ (rn ns fs mm cs os ts us is uu)) (oE fs.els.length os.els.length) [v,pZ (rn ns fs mm cs os ts us is uu)]=_:=sg2_eq ⟨hv,rfl⟩;obtain ⟨xe,hse,_⟩:=he;obtain ⟨xv,hsv,_⟩:=hv;refine aF (L:=[ent 149 gP,ent 252 (rE eK fun n=>.int .i64 (eL n)),ent 231 (tM (pZ (rn ns fs mm cs os ts us is uu)) (oE fs.els.length os.els.length))]) (elist_cons within_ok.ent (elist_cons asks_ok.ent (elist_cons (VT h).ent aD))) (fun r=>(bif Nat.beq r 1 then [9,29,37,44] else [],[])) (by kernel_rfl) Tryz.func281 Tryz.ntmps281 Tryz.results281 rfl rfl (aA h.und.und (aA hux.und aC)) aJ ?_
 have hfr:frR ns.els fs.els.length os.els.length (.agg [.int .i64 n,e,v])=(inR n 0 ((xn.length:Int)-1)&&(decide (((xe.length:Nat):Int)<=30)&&xe.all (oE fs.els.length os.els.length))&&(decide (((xv.length:Nat):Int)<=eL (eF xn n))&&xv.all (oE fs.els.length os.els.length))):=by
  rw [hn.els];simp only [frR,fA,AV.fld,AV.num,List.getD_cons_zero,List.getD_cons_succ,hse.els,hsv.els]
 rw [hfr];rw [hse.els]at a1;rw [hsv.els]at a2
 cases k1:inR n 0 ((xn.length:Int)-1) with
 | false=>exact az8 @aI hn.lX hn.sX @w1 @c1 @ce @cv @k1
 | true=>
   have hb:=k1;simp only [inR,Bool.and_eq_true,decide_eq_true_eq]at hb
   have hlt:n.toNat<xn.length:=by omega
   have hg:=List.getElem?_eq_getElem hlt
   have hat:eF xn n=xn[n.toNat]:=by simp [eF,List.getD_eq_getElem?_getD,hg]
   have hD:=hnx _ (List.getElem_mem hlt);rw [hat];generalize xn[n.toNat]=y at *
   have hix:=fun {q d}=>JN hb.1 hg (tk_node.len hD) (q:=q) (d:=d)
   have hpf:=fun {d}=>tk_node.pf hD (d:=d)
   have ha:rE eK (fun n=>.int .i64 (eL n)) [y]=_:=bX hD;by_cases k2:((xe.length:Nat):Int)<=30
   ·by_cases k3:((xv.length:Nat):Int)<=eL y
    ·cases k4:xe.all (oE fs.els.length os.els.length) with
     | false=>simp +contextual +decide (maxSteps:=1000000) only [↓ wP,wQ,tf,Nat.reduceAdd,wS,aI,hn.len,hn.stab,hn.idx,hse.len,hse.stab,hsv.len,hsv.stab,w1,c1,ce,cv,k1,hix,hpf,ha,k2,k3,a1,k4]
     | true=>simp +contextual +decide (maxSteps:=1000000) only [↓ wP,wQ,tf,Nat.reduceAdd,wS,aI,hn.len,hn.stab,hn.idx,hse.len,hse.stab,hsv.len,hsv.stab,w1,c1,ce,cv,k1,hix,hpf,ha,k2,k3,a1,k4,a2]
    ·exact SL @aI hn.lX hn.sX hn.iX hse.lX hse.sX hsv.lX hsv.sX @w1 @c1 @ce @cv @k1 @hix @hpf @ha @k2 @k3
   ·exact NF @aI hn.lX hn.sX hse.lX hse.sX @w1 @c1 @ce @cv @k1 @k2
end
section
variable {ns fs mm cs os ts us is uu:AV}
def TFn (ns x:AV):Prop:=PY x/\inR (x.fld 0).num 0 ((ns.els.length:Int)-1)=true
set_option maxHeartbeats 1000000 in
theorem aKc (h:RW ns fs mm cs os ts us is uu) (x:AV) (hx:TFn ns x):Abs.Returns Tryz.prog 282 [rn ns fs mm cs os ts us is uu,x] (.bool (kS ns.els x)):=by
 obtain ⟨hx,hin⟩:=hx;have hux:=(tk_fr x hx).1;obtain ⟨_,e,v,rfl,⟨n,rfl⟩,he,hv⟩:=hx;have ce:=(aH _ he).2;have cv:=(aH _ hv).2;obtain ⟨xn,hn,hnx⟩:=h.ns;obtain ⟨c1,c2,c3,c4,c5,c6,c7,c8,c9⟩:=h.cells;obtain ⟨xv,hsv,_⟩:=hv;refine aF (L:=[ent 252 (rE eK fun n=>.int .i64 (eL n))]) (elist_cons asks_ok.ent aD) (fun r=>(bif Nat.beq r 1 then [12] else [],[])) (by kernel_rfl) Tryz.func282 Tryz.ntmps282 Tryz.results282 rfl rfl (aA h.und.und (aA hux.und aC)) aJ ?_
 have hfr:kS ns.els (.agg [.int .i64 n,e,v])=decide (((xv.length:Nat):Int)<eL (eF xn n)):=by
  rw [hn.els];simp only [kS,AV.fld,AV.num,List.getD_cons_zero,List.getD_cons_succ,hsv.els]
 rw [hfr];rw [hn.els]at hin
 have hb:0<=n/\n<=(xn.length:Int)-1:=by simpa [inR,AV.fld,AV.num] using hin
 have hlt:n.toNat<xn.length:=by omega
 have hg:=List.getElem?_eq_getElem hlt
 have hat:eF xn n=xn[n.toNat]:=by simp [eF,List.getD_eq_getElem?_getD,hg]
 have hD:=hnx _ (List.getElem_mem hlt);rw [hat];generalize xn[n.toNat]=y at *
 have hix:=fun {q d}=>JN hb.1 hg (tk_node.len hD) (q:=q) (d:=d)
 have hpf:=fun {d}=>tk_node.pf hD (d:=d)
 have ha:rE eK (fun n=>.int .i64 (eL n)) [y]=_:=bX hD;exact az9 hn.iX hsv.lX hsv.sX @c1 @ce @cv @hix @hpf @ha
abbrev GV (ns fs os r:AV):List AV->Option AV:=nP (fun a b=>(uO a/\b=JF r)∨(TSl (TFn ns) a/\b=aEl r)) fun a b=>.bool (@ite _ (b=JF r) (Classical.propDecidable _) (a.els.all (frR ns.els fs.els.length os.els.length)) (a.els.all (kS ns.els)))
theorem VU {r:AV}:aEl r≠JF r:=by
 intro h;injection h with h1;injection h1 with h1;revert h1;decide
theorem aEn (h:RW ns fs mm cs os ts us is uu):Abs.Ok Tryz.prog 280 (GV ns fs os (rn ns fs mm cs os ts us is uu)):=
 ok2 fun a b hab=>by
  rcases hab with ⟨ha,e⟩ | ⟨ha,e⟩
  ·subst e;rw [if_pos rfl];exact aFg (fun _ h=>h) _ (oY h.und) (fun x hx=>aEm h x hx) ha
  ·subst e;rw [if_neg VU];exact aFg (fun _ h=>h.1) _ (oY h.und) (fun x hx=>aKc h x hx) ha
def gI (ns:List AV) (nf no:Int) (l:List AV) (last:Int):Bool:=pA ns nf no l&&(l.take (max 0 ((l.length:Int)-last)).toNat).all (kS ns)
theorem xJ {ns:List AV} {nf no:Int} {x:AV} (h:frR ns nf no x=true):inR (x.fld 0).num 0 ((ns.length:Int)-1)=true:=by
 simp only [frR,Bool.and_eq_true]at h;exact h.1.1
set_option maxHeartbeats 1000000 in
theorem YP (h:RW ns fs mm cs os ts us is uu) (a:AV) (ha:uO a) (last:Int) (h0:0<=last) (h1:last<=1):Abs.Returns Tryz.prog 233 [rn ns fs mm cs os ts us is uu,a,.int .i64 last] (.bool (gI ns.els fs.els.length os.els.length a.els last)):=by
 have hua:=(bN a ha).1
 have a1:GV ns fs os (rn ns fs mm cs os ts us is uu) [a,JF (rn ns fs mm cs os ts us is uu)]=some (.bool (a.els.all (frR ns.els fs.els.length os.els.length))):=by rw [GV,sg2_eq (.inl ⟨ha,rfl⟩),if_pos rfl]
 obtain ⟨xs,hs,hx⟩:=ha;have hl:=hs.2;refine aF (L:=[ent 280 (GV ns fs os (rn ns fs mm cs os ts us is uu))]) (elist_cons (aEn h).ent aD) aN (by kernel_rfl) Tryz.func233 Tryz.ntmps233 Tryz.results233 rfl rfl (aA h.und.und (aA hua.und (aA aT aC))) aJ ?_;rw [hs.els]at a1 ⊢;by_cases k1:((xs.length:Nat):Int)<=40
 ·have k1':xs.length<=40:=by omega
  cases k2:xs.all (frR ns.els fs.els.length os.els.length) with
  | false=>simp +contextual +decide (maxSteps:=1000000) only [↓ wP,wQ,tf,wS,hs.len,k1,a1,k2];simp [gI,pA,k2]
  | true=>
    have w1:IntKind.i64.wrap (((xs.length:Nat):Int)-last)=((xs.length:Nat):Int)-last:=IntWalk.i64_in _ aE;obtain ⟨b,hb,hsl⟩:=hs.upto (k:=3) (fun x hm=>tk_fr.len (hx x hm)) (n:=max 0 (((xs.length:Nat):Int)-last)) aE aE
    have hbt:TSl (TFn ns) b:=⟨_,hb,fun x hm=>⟨hx x (List.mem_of_mem_take hm),xJ (List.all_eq_true.1 k2 x (List.mem_of_mem_take hm))⟩⟩
    have a2:GV ns fs os (rn ns fs mm cs os ts us is uu) [b,aEl (rn ns fs mm cs os ts us is uu)]=some (.bool (b.els.all (kS ns.els))):=by rw [GV,sg2_eq (.inr ⟨hbt,rfl⟩),if_neg VU]
    rw [hb.els]at a2
    have hm:(if ((xs.length:Nat):Int)-last > 0 then ((xs.length:Nat):Int)-last else 0)=max 0 (((xs.length:Nat):Int)-last):=by split<;>omega
    simp +contextual +decide (maxSteps:=1000000) only [↓ wP,wQ,tf,wS,hs.len,k1,a1,k2,w1,aFm,hm,hsl,a2];simp [gI,pA,k1',k2]
 ·refine ap2 hs.lX @k1 ?_
  have:¬ xs.length<=40:=by omega
  simp [gI,pA,this]
end
section
variable {ns fs mm cs os ts us is uu:AV}
def mR (ns:List AV) (nf no:Int) (n:Int) (vs fs:List AV):Bool:=
 if n=0 then !(decide (1<(vs.length:Int))||(decide ((fs.length:Int)=0)&&decide ((vs.length:Int)=0)))&&gI ns nf no fs (1-(vs.length:Int))
 else if n=1 then decide ((vs.length:Int)=1)&&decide ((fs.length:Int)=0)
 else if n=2 then decide ((vs.length:Int)=0)&&decide ((fs.length:Int)=0) else if n=3 then decide ((vs.length:Int)=0)&&decide ((fs.length:Int)=0)
 else if n=4 then decide ((vs.length:Int)=0)&&decide ((fs.length:Int)=0) else false
def lB (ns cs:List AV) (nf no:Int) (k n:Int) (vs fs:List AV):Bool:=
 vs.all (oE nf no)&&(
 if k=1 then decide ((fs.length:Int)=0)&&inR n 0 ((cs.length:Int)-1)&&decide ((vs.length:Int)=((cs.getD n.toNat .top).fld 1).num)
 else if k=2 then decide ((fs.length:Int)=0)&&inR n 0 ((ns.length:Int)-1)&&decide (((eF ns n).fld 0).num=5)&&decide ((vs.length:Int)<=30)
 else if k=3 then decide ((fs.length:Int)=0)&&decide (n=0)&&decide ((vs.length:Int)=1)
 else if k=4 then decide ((fs.length:Int)=0)&&decide (n=0)&&decide ((vs.length:Int)<=4)
 else if k=5 then decide (n=0)&&decide ((vs.length:Int)=0)&&decide (0<(fs.length:Int))&&gI ns nf no fs 0&&decide (((eF ns ((fs.getD 0 .top).fld 0).num).fld 0).num=26)
 else if k=6 then mR ns nf no n vs fs else false)
def BP (ns fs os r:AV):List AV->Option AV:=VY (fun a b c=>a=r/\uO b/\∃ l,c=.int .i64 l/\0<=l/\l<=1) fun _ b c=>.bool (gI ns.els fs.els.length os.els.length b.els c.num)
theorem DL (h:RW ns fs mm cs os ts us is uu):Abs.Ok Tryz.prog 233 (BP ns fs os (rn ns fs mm cs os ts us is uu)):=
 ok3 fun a b c ⟨e,hb,l,e',h0,h1⟩=>by subst e;subst e';exact YP h b hb l h0 h1
theorem DM {ns fs os r b:AV} {l:Int} (hb:uO b) (h0:0<=l) (h1:l<=1):BP ns fs os r [r,b,.int .i64 l]=some (.bool (gI ns.els fs.els.length os.els.length b.els l)):=gR ⟨rfl,hb,l,rfl,h0,h1⟩
set_option maxHeartbeats 2000000 in
theorem aKd (h:RW ns fs mm cs os ts us is uu) (k n:Int) (vs gs:AV) (hv:dN vs) (hg:uO gs):
 Abs.Returns Tryz.prog 234 [rn ns fs mm cs os ts us is uu,.agg [.int .i64 k,.int .i64 n,vs,gs]] (.bool (mR ns.els fs.els.length os.els.length n vs.els gs.els)):=by
 have huo:UnderE 0 (.agg [.int .i64 k,.int .i64 n,vs,gs]):=(tk_ob _ ⟨_,_,_,_,rfl,⟨_,rfl⟩,⟨_,rfl⟩,hv,hg⟩).1;have cv:=(aH _ hv).2;have cg:=(bN _ hg).2;obtain ⟨xv,hsv,_⟩:=hv
 have hf:=fun {l}=>DM (ns:=ns) (fs:=fs) (os:=os) (r:=rn ns fs mm cs os ts us is uu) (l:=l) hg
 obtain ⟨xg,hsg,_⟩:=hg;have hl:=hsv.2;rw [hsv.els,hsg.els];rw [hsg.els]at hf;refine aF (L:=[ent 233 (BP ns fs os (rn ns fs mm cs os ts us is uu))]) (elist_cons (DL h).ent aD) aN (by kernel_rfl) Tryz.func234 Tryz.ntmps234 Tryz.results234 rfl rfl (aA h.und.und (aA huo.und aC)) aJ ?_;have hgt:(((xv.length:Nat):Int) > 1)=(1<((xv.length:Nat):Int)):=rfl;by_cases k0:n=0
 ·subst k0
  by_cases k1:1<((xv.length:Nat):Int)
  ·refine NA @cv @cg hsv.lX @k1 ?_
   simp +decide only [wT,mR,k1]
  ·have w1:IntKind.i64.wrap (1-((xv.length:Nat):Int))=1-((xv.length:Nat):Int):=IntWalk.i64_in _ aE
   have hf:=hf (l:=1-((xv.length:Nat):Int)) aE aE;by_cases k2:((xg.length:Nat):Int)=0
   ·by_cases k3:((xv.length:Nat):Int)=0
    ·refine ap6 @cv @cg hsv.lX hsg.lX @k2 @k3 ?_
     simp +decide only [wT,mR,k2,k3]
    ·refine ap9 @cv @cg hsv.lX hsg.lX @k1 @k2 @k3 @w1 @hf ?_
     simp +decide only [wT,mR,k1,k2,k3]
   ·refine ap8 @cv @cg hsv.lX hsg.lX @k1 @k2 @w1 @hf ?_
    simp +decide only [wT,mR,k1,k2]
 by_cases k1:n=1
 ·subst k1
  by_cases k3:((xv.length:Nat):Int)=1
  ·refine VV @cv @cg hsv.lX hsg.lX @k3 ?_
   simp +decide only [wT,mR,k3]
  ·refine NA @cv @cg hsv.lX @k3 ?_
   simp +decide only [wT,mR,k3]
 by_cases k2:n=2∨n=3∨n=4
 ·rcases k2 with rfl | rfl | rfl
  all_goals
   by_cases k3:((xv.length:Nat):Int)=0
   ·refine VV @cv @cg hsv.lX hsg.lX @k3 ?_
    simp +decide only [wT,mR,k3]
   ·refine NA @cv @cg hsv.lX @k3 ?_
    simp +decide only [wT,mR,k3]
 ·have e2:n≠2:=by omega
  have e3:n≠3:=by omega
  have e4:n≠4:=by omega
  refine ap7 @cv @cg @k0 @k1 @e2 @e3 @e4 ?_;simp +decide only [wT,mR,k0,k1,e2,e3,e4]
end
end
end Go.Proofs.YtifmdaalhclhgaaGreat
