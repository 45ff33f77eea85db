/-
  The program of meanings: worlds as they are defined.
-/
import Derived.Test.YtkocnhkbgcjpbaaGreatNa
set_option linter.unusedVariables false
set_option linter.unusedSimpArgs false
namespace Go.Proofs.YtkocnhkbgcjpbaaGreat
open Go.Abs Go Go.Abs.TryzF
noncomputable section
set_option maxRecDepth 10000
def iF:List AV->Option AV
 | [.int .i64 n,.int .i64 l,.int .i64 h]=>some (.bool (inR n l h))
 | _=>none
theorem aI {n l h:Int}:iF [.int .i64 n,.int .i64 l,.int .i64 h]=some (.bool (inR n l h)):=rfl
def xJ:List AV->Option AV
 | [.int .i64 n]=>some (.bool (pO n))
 | _=>none
theorem sU {n:Int}:xJ [.int .i64 n]=some (.bool (pO n)):=rfl
theorem within_ok:Abs.Ok Tryz.prog 145 iF:=by
 intro args v hg;unfold iF at hg;split at hg<;>cases hg;rename_i n l h;refine aF (L:=[]) aE aH (by kernel_rfl) Tryz.func145 Tryz.ntmps145 Tryz.results145 rfl rfl (aA aQ (aA aQ (aA aQ aD))) aG ?_;by_cases h1:l<=n
 ·simp +contextual +decide (maxSteps:=1000000) only [↓ wP,wQ,wS,h1]
  simp [inR,h1]
 ·simp +contextual +decide (maxSteps:=1000000) only [↓ wP,wQ,wS,h1]
  simp [inR,h1]
theorem integer_ok:Abs.Ok Tryz.prog 146 xJ:=by
 intro args v hg;unfold xJ at hg;split at hg<;>cases hg;rename_i n;refine aF (L:=[ent 145 iF]) (elist_cons within_ok.ent aE) aH (by kernel_rfl) Tryz.func146 Tryz.ntmps146 Tryz.results146 rfl rfl (aA aQ aD) aG ?_;simp +contextual +decide (maxSteps:=1000000) only [↓ wP,wQ,wS,aI];rfl
theorem bY {n:Nat} (h:n<=9223372036854775807):IntKind.i64.wrap ((n:Int)-1)=(n:Int)-1:=IntWalk.i64_in _ (by omega)
structure RW (ns fs mm cs os ts us is uu:AV):Prop where
 ns:TSl eO ns
 fs:dU fs
 mm:cS mm
 cs:rR cs
 os:TSl nG os
 ts:dU ts
 us:TSl nH us
 is:dU is
 uu:cS uu
abbrev rn (ns fs mm cs os ts us is uu:AV):AV:=.pf (.agg [ns,fs,mm,cs,os,ts,us,is,uu])
section
variable {ns fs mm cs os ts us is uu:AV}
theorem RW.und (h:RW ns fs mm cs os ts us is uu):UnderE 0 (rn ns fs mm cs os ts us is uu):=bQ (gM fun x hx=>by
 simp at hx
 rcases hx with rfl | rfl | rfl | rfl | rfl | rfl | rfl | rfl | rfl
 ·exact (dN _ h.ns).1
 ·exact (aM _ h.fs).1
 ·exact (tu_int _ h.mm).1
 ·exact (dR _ h.cs).1
 ·exact (iG _ h.os).1
 ·exact (aM _ h.ts).1
 ·exact (cJ _ h.us).1
 ·exact (aM _ h.is).1
 ·exact (tu_int _ h.uu).1)
theorem RW.cells (h:RW ns fs mm cs os ts us is uu):ns.isCell=true/\fs.isCell=true/\mm.isCell=true/\cs.isCell=true/\os.isCell=true/\ts.isCell=true/\us.isCell=true/\is.isCell=true/\uu.isCell=true:=
 ⟨(dN _ h.ns).2,(aM _ h.fs).2,(tu_int _ h.mm).2,(dR _ h.cs).2,(iG _ h.os).2,(aM _ h.ts).2,(cJ _ h.us).2,(aM _ h.is).2,(tu_int _ h.uu).2⟩
theorem MH {nf no k n:Int}:oU nf no (.agg [.int .i64 k,.int .i64 n])=if k=1 then pO n else if k=2 then inR n 0 1 else if k=3 then decide (n=0) else if k=4 then inR n 0 (nf-1) else if k=5 then inR n 0 (no-1) else false:=rfl
set_option maxHeartbeats 1000000 in
theorem aCv (h:RW ns fs mm cs os ts us is uu) (x:AV) (hx:zF x):Abs.Returns Tryz.prog 189 [rn ns fs mm cs os ts us is uu,x] (.bool (oU fs.els.length os.els.length x)):=by
 have hux:=(tk_val x hx).1;obtain ⟨_,_,rfl,⟨k,rfl⟩,⟨n,rfl⟩⟩:=hx;obtain ⟨xf,hf,_⟩:=h.fs;obtain ⟨xo,ho,_⟩:=h.os;obtain ⟨c1,c2,c3,c4,c5,c6,c7,c8,c9⟩:=h.cells;have w1:=bY hf.2;have w2:=bY ho.2;refine aF (L:=[ent 145 iF,ent 146 xJ]) (elist_cons within_ok.ent (elist_cons integer_ok.ent aE)) (fun r=>(bif Nat.beq r 9 then [9] else bif Nat.beq r 11 then [9] else [],[])) (by kernel_rfl) Tryz.func189 Tryz.ntmps189 Tryz.results189 rfl rfl (aA h.und.und (aA hux.und aD)) aG ?_;rw [hf.els,ho.els,MH];by_cases h1:k=1
 ·subst h1;simp +contextual +decide (maxSteps:=1000000) only [↓ wP,wQ,tf,Nat.reduceAdd,wS,sU]
 by_cases h2:k=2
 ·subst h2;simp +contextual +decide (maxSteps:=1000000) only [↓ wP,wQ,tf,Nat.reduceAdd,wS,aI]
 by_cases h3:k=3
 ·subst h3;simp +contextual +decide (maxSteps:=1000000) only [↓ wP,wQ,tf,Nat.reduceAdd,wS]
 by_cases h4:k=4
 ·subst h4;simp +contextual +decide (maxSteps:=1000000) only [↓ wP,wQ,tf,Nat.reduceAdd,wS,aI,hf.len,hf.stab,w1,c2]
 by_cases h5:k=5
 ·subst h5;simp +contextual +decide (maxSteps:=1000000) only [↓ wP,wQ,tf,Nat.reduceAdd,wS,aI,ho.len,ho.stab,w2,c5]
 simp +contextual +decide (maxSteps:=1000000) only [↓ wP,wQ,tf,Nat.reduceAdd,wS,h1,h2,h3,h4,h5]
end
theorem DH (k:Int):k=6∨k=9∨k=10∨k=11∨k=12∨k=13∨k=18∨k=22∨k=14∨k=7∨k=8∨k=15∨k=16∨k=17∨k=19∨k=20∨k=23∨k=24∨k=26∨
 (k≠6/\k≠9/\k≠10/\k≠11/\k≠12/\k≠13/\k≠18/\k≠22/\k≠14/\k≠7/\k≠8/\k≠15/\k≠16/\k≠17/\k≠19/\k≠20/\k≠23/\k≠24/\k≠26):=by omega
set_option maxHeartbeats 4000000 in
theorem asks_ok:Abs.Ok Tryz.prog 225 (sV eO fun n=>.int .i64 (eP n)):=yQ fun x hx=>by
 have hux:=(tk_node x hx).1;obtain ⟨_,_,ki,pa,rfl,⟨k,rfl⟩,⟨n,rfl⟩,hk,hp⟩:=hx;have ck:=(aM _ hk).2;have cp:=(fW _ hp).2;obtain ⟨xs,hks,_⟩:=hk;refine aF (L:=[]) aE aH (by kernel_rfl) Tryz.func225 Tryz.ntmps225 Tryz.results225 rfl rfl (aA hux.und aD) aQ ?_
 rcases DH k with rfl | rfl | rfl | rfl | rfl | rfl | rfl | rfl | rfl | rfl | rfl | rfl | rfl | rfl | rfl | rfl | rfl | rfl | rfl | h
 case inr.inr.inr.inr.inr.inr.inr.inr.inl=>simp +contextual +decide (maxSteps:=1000000) only [↓ wP,wQ,tf,Nat.reduceAdd,wS,ck,cp,hks.len];simp [eP,AV.fld,AV.num,hks.els]
 case inr.inr.inr.inr.inr.inr.inr.inr.inr.inr.inr.inr.inr.inr.inr.inr.inr.inr.inr=>simp +contextual +decide (maxSteps:=1000000) only [↓ wP,wQ,tf,Nat.reduceAdd,wS,ck,cp,h];simp [eP,AV.fld,AV.num,h]
 all_goals simp +contextual +decide (maxSteps:=1000000) only [↓ wP,wQ,tf,Nat.reduceAdd,wS,ck,cp];rfl
abbrev tW (fv:AV) (p:AV->Bool):List AV->Option AV:=rX (fun a b=>iA a/\b=fv) fun a _=>.bool (a.els.all p)
section
variable {ns fs mm cs os ts us is uu:AV}
abbrev qO (r:AV):AV:=.func (.func 189) [r] []
abbrev IP (r:AV):AV:=.func (.func 245) [r] []
abbrev aCw (r:AV):AV:=.func (.func 246) [r] []
theorem pN {f:FuncId} {r:AV} (h:UnderE 0 r):UnderE 0 (.func (.func f) [r] []):=cL (by intro x hx;simp at hx;subst hx;exact h) (fun _ h=>nomatch h)
theorem UK (h:RW ns fs mm cs os ts us is uu):Abs.Ok Tryz.prog 188 (tW (qO (rn ns fs mm cs os ts us is uu)) (oU fs.els.length os.els.length)):=
 ok2 fun a b ⟨ha,e⟩=>by subst e;exact aIk (fun _ h=>h) _ (pN h.und) (fun x hx=>aCv h x hx) ha
set_option maxHeartbeats 1000000 in
theorem aCx (h:RW ns fs mm cs os ts us is uu) (x:AV) (hx:UN x):Abs.Returns Tryz.prog 245 [rn ns fs mm cs os ts us is uu,x] (.bool (MI ns.els fs.els.length os.els.length x)):=by
 have hux:=(tk_fr x hx).1;obtain ⟨_,e,v,rfl,⟨n,rfl⟩,he,hv⟩:=hx;have ce:=(aR _ he).2;have cv:=(aR _ hv).2;obtain ⟨xn,hn,hnx⟩:=h.ns;obtain ⟨c1,c2,c3,c4,c5,c6,c7,c8,c9⟩:=h.cells;have w1:=bY hn.2;have a1:tW (qO (rn ns fs mm cs os ts us is uu)) (oU fs.els.length os.els.length) [e,qO (rn ns fs mm cs os ts us is uu)]=_:=sg2_eq ⟨he,rfl⟩;have a2:tW (qO (rn ns fs mm cs os ts us is uu)) (oU fs.els.length os.els.length) [v,qO (rn ns fs mm cs os ts us is uu)]=_:=sg2_eq ⟨hv,rfl⟩;obtain ⟨xe,hse,_⟩:=he;obtain ⟨xv,hsv,_⟩:=hv;refine aF (L:=[ent 145 iF,ent 225 (sV eO fun n=>.int .i64 (eP n)),ent 188 (tW (qO (rn ns fs mm cs os ts us is uu)) (oU fs.els.length os.els.length))]) (elist_cons within_ok.ent (elist_cons asks_ok.ent (elist_cons (UK h).ent aE))) (fun r=>(bif Nat.beq r 1 then [9,29,37,44] else [],[])) (by kernel_rfl) Tryz.func245 Tryz.ntmps245 Tryz.results245 rfl rfl (aA h.und.und (aA hux.und aD)) aG ?_
 have hfr:MI ns.els fs.els.length os.els.length (.agg [.int .i64 n,e,v])=(inR n 0 ((xn.length:Int)-1)&&(decide (((xe.length:Nat):Int)<=30)&&xe.all (oU fs.els.length os.els.length))&&(decide (((xv.length:Nat):Int)<=eP (eJ xn n))&&xv.all (oU fs.els.length os.els.length))):=by
  rw [hn.els];simp only [MI,fM,AV.fld,AV.num,List.getD_cons_zero,List.getD_cons_succ,hse.els,hsv.els]
 rw [hfr];rw [hse.els]at a1;rw [hsv.els]at a2
 cases k1:inR n 0 ((xn.length:Int)-1) with
 | false=>simp +contextual +decide (maxSteps:=1000000) only [↓ wP,wQ,tf,Nat.reduceAdd,wS,aI,hn.len,hn.stab,w1,c1,ce,cv,k1]
 | true=>
   have hb:=k1;simp only [inR,Bool.and_eq_true,decide_eq_true_eq]at hb
   have hlt:n.toNat<xn.length:=by omega
   have hg:=List.getElem?_eq_getElem hlt
   have hat:eJ xn n=xn[n.toNat]:=by simp [eJ,List.getD_eq_getElem?_getD,hg]
   have hD:=hnx _ (List.getElem_mem hlt);rw [hat];generalize xn[n.toNat]=y at *
   have hix:=fun {q d}=>IT hb.1 hg (tk_node.len hD) (q:=q) (d:=d)
   have hpf:=fun {d}=>tk_node.pf hD (d:=d)
   have ha:sV eO (fun n=>.int .i64 (eP n)) [y]=_:=bT hD;by_cases k2:((xe.length:Nat):Int)<=30
   ·by_cases k3:((xv.length:Nat):Int)<=eP y
    ·cases k4:xe.all (oU fs.els.length os.els.length) with
     | false=>simp +contextual +decide (maxSteps:=1000000) only [↓ wP,wQ,tf,Nat.reduceAdd,wS,aI,hn.len,hn.stab,hn.idx,hse.len,hse.stab,hsv.len,hsv.stab,w1,c1,ce,cv,k1,hix,hpf,ha,k2,k3,a1,k4]
     | true=>simp +contextual +decide (maxSteps:=1000000) only [↓ wP,wQ,tf,Nat.reduceAdd,wS,aI,hn.len,hn.stab,hn.idx,hse.len,hse.stab,hsv.len,hsv.stab,w1,c1,ce,cv,k1,hix,hpf,ha,k2,k3,a1,k4,a2]
    ·simp +contextual +decide (maxSteps:=1000000) only [↓ wP,wQ,tf,Nat.reduceAdd,wS,aI,hn.len,hn.stab,hn.idx,hse.len,hse.stab,hsv.len,hsv.stab,w1,c1,ce,cv,k1,hix,hpf,ha,k2,k3]
   ·simp +contextual +decide (maxSteps:=1000000) only [↓ wP,wQ,tf,Nat.reduceAdd,wS,aI,hn.len,hn.stab,hse.len,hse.stab,w1,c1,ce,cv,k1,k2]
end
section
variable {ns fs mm cs os ts us is uu:AV}
def TFn (ns x:AV):Prop:=UN x/\inR (x.fld 0).num 0 ((ns.els.length:Int)-1)=true
set_option maxHeartbeats 1000000 in
theorem aIe (h:RW ns fs mm cs os ts us is uu) (x:AV) (hx:TFn ns x):Abs.Returns Tryz.prog 246 [rn ns fs mm cs os ts us is uu,x] (.bool (gL ns.els x)):=by
 obtain ⟨hx,hin⟩:=hx;have hux:=(tk_fr x hx).1;obtain ⟨_,e,v,rfl,⟨n,rfl⟩,he,hv⟩:=hx;have ce:=(aR _ he).2;have cv:=(aR _ hv).2;obtain ⟨xn,hn,hnx⟩:=h.ns;obtain ⟨c1,c2,c3,c4,c5,c6,c7,c8,c9⟩:=h.cells;obtain ⟨xv,hsv,_⟩:=hv;refine aF (L:=[ent 225 (sV eO fun n=>.int .i64 (eP n))]) (elist_cons asks_ok.ent aE) (fun r=>(bif Nat.beq r 1 then [12] else [],[])) (by kernel_rfl) Tryz.func246 Tryz.ntmps246 Tryz.results246 rfl rfl (aA h.und.und (aA hux.und aD)) aG ?_
 have hfr:gL ns.els (.agg [.int .i64 n,e,v])=decide (((xv.length:Nat):Int)<eP (eJ xn n)):=by
  rw [hn.els];simp only [gL,AV.fld,AV.num,List.getD_cons_zero,List.getD_cons_succ,hsv.els]
 rw [hfr];rw [hn.els]at hin
 have hb:0<=n/\n<=(xn.length:Int)-1:=by simpa [inR,AV.fld,AV.num] using hin
 have hlt:n.toNat<xn.length:=by omega
 have hg:=List.getElem?_eq_getElem hlt
 have hat:eJ xn n=xn[n.toNat]:=by simp [eJ,List.getD_eq_getElem?_getD,hg]
 have hD:=hnx _ (List.getElem_mem hlt);rw [hat];generalize xn[n.toNat]=y at *
 have hix:=fun {q d}=>IT hb.1 hg (tk_node.len hD) (q:=q) (d:=d)
 have hpf:=fun {d}=>tk_node.pf hD (d:=d)
 have ha:sV eO (fun n=>.int .i64 (eP n)) [y]=_:=bT hD;simp +contextual +decide (maxSteps:=1000000) only [↓ wP,wQ,tf,Nat.reduceAdd,wS,hn.idx,hsv.len,hsv.stab,c1,ce,cv,hix,hpf,ha]
abbrev GE (ns fs os r:AV):List AV->Option AV:=rX (fun a b=>(xL a/\b=IP r)∨(TSl (TFn ns) a/\b=aCw r)) fun a b=>.bool (@ite _ (b=IP r) (Classical.propDecidable _) (a.els.all (MI ns.els fs.els.length os.els.length)) (a.els.all (gL ns.els)))
theorem UL {r:AV}:aCw r≠IP r:=by
 intro h;injection h with h1;injection h1 with h1;revert h1;decide
theorem aCy (h:RW ns fs mm cs os ts us is uu):Abs.Ok Tryz.prog 244 (GE ns fs os (rn ns fs mm cs os ts us is uu)):=
 ok2 fun a b hab=>by
  rcases hab with ⟨ha,e⟩ | ⟨ha,e⟩
  ·subst e;rw [if_pos rfl];exact aDj (fun _ h=>h) _ (pN h.und) (fun x hx=>aCx h x hx) ha
  ·subst e;rw [if_neg UL];exact aDj (fun _ h=>h.1) _ (pN h.und) (fun x hx=>aIe h x hx) ha
def eG (ns:List AV) (nf no:Int) (l:List AV) (last:Int):Bool:=nY ns nf no l&&(l.take (max 0 ((l.length:Int)-last)).toNat).all (gL ns)
theorem xK {ns:List AV} {nf no:Int} {x:AV} (h:MI ns nf no x=true):inR (x.fld 0).num 0 ((ns.length:Int)-1)=true:=by
 simp only [MI,Bool.and_eq_true]at h;exact h.1.1
set_option maxHeartbeats 1000000 in
theorem XH (h:RW ns fs mm cs os ts us is uu) (a:AV) (ha:xL a) (last:Int) (h0:0<=last) (h1:last<=1):Abs.Returns Tryz.prog 190 [rn ns fs mm cs os ts us is uu,a,.int .i64 last] (.bool (eG ns.els fs.els.length os.els.length a.els last)):=by
 have hua:=(fV a ha).1
 have a1:GE ns fs os (rn ns fs mm cs os ts us is uu) [a,IP (rn ns fs mm cs os ts us is uu)]=some (.bool (a.els.all (MI ns.els fs.els.length os.els.length))):=by rw [GE,sg2_eq (.inl ⟨ha,rfl⟩),if_pos rfl]
 obtain ⟨xs,hs,hx⟩:=ha;have hl:=hs.2;refine aF (L:=[ent 244 (GE ns fs os (rn ns fs mm cs os ts us is uu))]) (elist_cons (aCy h).ent aE) aH (by kernel_rfl) Tryz.func190 Tryz.ntmps190 Tryz.results190 rfl rfl (aA h.und.und (aA hua.und (aA aQ aD))) aG ?_;rw [hs.els]at a1 ⊢;by_cases k1:((xs.length:Nat):Int)<=40
 ·have k1':xs.length<=40:=by omega
  cases k2:xs.all (MI ns.els fs.els.length os.els.length) with
  | false=>simp +contextual +decide (maxSteps:=1000000) only [↓ wP,wQ,tf,wS,hs.len,k1,a1,k2];simp [eG,nY,k2]
  | true=>
    have w1:IntKind.i64.wrap (((xs.length:Nat):Int)-last)=((xs.length:Nat):Int)-last:=IntWalk.i64_in _ (by omega);obtain ⟨b,hb,hsl⟩:=hs.upto (k:=3) (fun x hm=>tk_fr.len (hx x hm)) (n:=max 0 (((xs.length:Nat):Int)-last)) (by omega) (by omega)
    have hbt:TSl (TFn ns) b:=⟨_,hb,fun x hm=>⟨hx x (List.mem_of_mem_take hm),xK (List.all_eq_true.1 k2 x (List.mem_of_mem_take hm))⟩⟩
    have a2:GE ns fs os (rn ns fs mm cs os ts us is uu) [b,aCw (rn ns fs mm cs os ts us is uu)]=some (.bool (b.els.all (gL ns.els))):=by rw [GE,sg2_eq (.inr ⟨hbt,rfl⟩),if_neg UL]
    rw [hb.els]at a2
    have hm:(if ((xs.length:Nat):Int)-last > 0 then ((xs.length:Nat):Int)-last else 0)=max 0 (((xs.length:Nat):Int)-last):=by split<;>omega
    simp +contextual +decide (maxSteps:=1000000) only [↓ wP,wQ,tf,wS,hs.len,k1,a1,k2,w1,aDo,hm,hsl,a2];simp [eG,nY,k1',k2]
 ·simp +contextual +decide (maxSteps:=1000000) only [↓ wP,wQ,tf,wS,hs.len,k1]
  have:¬ xs.length<=40:=by omega
  simp [eG,nY,this]
end
section
variable {ns fs mm cs os ts us is uu:AV}
def kT (ns:List AV) (nf no:Int) (n:Int) (vs fs:List AV):Bool:=
 if n=0 then !(decide (1<(vs.length:Int))||(decide ((fs.length:Int)=0)&&decide ((vs.length:Int)=0)))&&eG ns nf no fs (1-(vs.length:Int))
 else if n=1 then decide ((vs.length:Int)=1)&&decide ((fs.length:Int)=0)
 else if n=2 then decide ((vs.length:Int)=0)&&decide ((fs.length:Int)=0) else if n=3 then decide ((vs.length:Int)=0)&&decide ((fs.length:Int)=0)
 else if n=4 then decide ((vs.length:Int)=0)&&decide ((fs.length:Int)=0) else false
def kQ (ns cs:List AV) (nf no:Int) (k n:Int) (vs fs:List AV):Bool:=
 vs.all (oU nf no)&&(
 if k=1 then decide ((fs.length:Int)=0)&&inR n 0 ((cs.length:Int)-1)&&decide ((vs.length:Int)=((cs.getD n.toNat .top).fld 1).num)
 else if k=2 then decide ((fs.length:Int)=0)&&inR n 0 ((ns.length:Int)-1)&&decide (((eJ ns n).fld 0).num=5)&&decide ((vs.length:Int)<=30)
 else if k=3 then decide ((fs.length:Int)=0)&&decide (n=0)&&decide ((vs.length:Int)=1)
 else if k=4 then decide ((fs.length:Int)=0)&&decide (n=0)&&decide ((vs.length:Int)<=4)
 else if k=5 then decide (n=0)&&decide ((vs.length:Int)=0)&&decide (0<(fs.length:Int))&&eG ns nf no fs 0&&decide (((eJ ns ((fs.getD 0 .top).fld 0).num).fld 0).num=26)
 else if k=6 then kT ns nf no n vs fs else false)
def BP (ns fs os r:AV):List AV->Option AV:=sg3 (fun a b c=>a=r/\xL b/\∃ l,c=.int .i64 l/\0<=l/\l<=1) fun _ b c=>.bool (eG ns.els fs.els.length os.els.length b.els c.num)
theorem DI (h:RW ns fs mm cs os ts us is uu):Abs.Ok Tryz.prog 190 (BP ns fs os (rn ns fs mm cs os ts us is uu)):=
 ok3 fun a b c ⟨e,hb,l,e',h0,h1⟩=>by subst e;subst e';exact XH h b hb l h0 h1
theorem DJ {ns fs os r b:AV} {l:Int} (hb:xL b) (h0:0<=l) (h1:l<=1):BP ns fs os r [r,b,.int .i64 l]=some (.bool (eG ns.els fs.els.length os.els.length b.els l)):=oV ⟨rfl,hb,l,rfl,h0,h1⟩
set_option maxHeartbeats 2000000 in
theorem aIf (h:RW ns fs mm cs os ts us is uu) (k n:Int) (vs gs:AV) (hv:iA vs) (hg:xL gs):
 Abs.Returns Tryz.prog 191 [rn ns fs mm cs os ts us is uu,.agg [.int .i64 k,.int .i64 n,vs,gs]] (.bool (kT ns.els fs.els.length os.els.length n vs.els gs.els)):=by
 have huo:UnderE 0 (.agg [.int .i64 k,.int .i64 n,vs,gs]):=(tk_ob _ ⟨_,_,_,_,rfl,⟨_,rfl⟩,⟨_,rfl⟩,hv,hg⟩).1;have cv:=(aR _ hv).2;have cg:=(fV _ hg).2;obtain ⟨xv,hsv,_⟩:=hv
 have hf:=fun {l}=>DJ (ns:=ns) (fs:=fs) (os:=os) (r:=rn ns fs mm cs os ts us is uu) (l:=l) hg
 obtain ⟨xg,hsg,_⟩:=hg;have hl:=hsv.2;rw [hsv.els,hsg.els];rw [hsg.els]at hf;refine aF (L:=[ent 190 (BP ns fs os (rn ns fs mm cs os ts us is uu))]) (elist_cons (DI h).ent aE) aH (by kernel_rfl) Tryz.func191 Tryz.ntmps191 Tryz.results191 rfl rfl (aA h.und.und (aA huo.und aD)) aG ?_;have hgt:(((xv.length:Nat):Int) > 1)=(1<((xv.length:Nat):Int)):=rfl;by_cases k0:n=0
 ·subst k0
  by_cases k1:1<((xv.length:Nat):Int)
  ·simp +contextual +decide (maxSteps:=1000000) only [↓ wP,wQ,tf,Nat.reduceAdd,wS,cv,cg,hsv.len,k1]
   simp +decide only [wT,kT,k1]
  ·have w1:IntKind.i64.wrap (1-((xv.length:Nat):Int))=1-((xv.length:Nat):Int):=IntWalk.i64_in _ (by omega)
   have hf:=hf (l:=1-((xv.length:Nat):Int)) (by omega) (by omega);by_cases k2:((xg.length:Nat):Int)=0
   ·by_cases k3:((xv.length:Nat):Int)=0
    ·simp +contextual +decide (maxSteps:=1000000) only [↓ wP,wQ,tf,Nat.reduceAdd,wS,cv,cg,hsv.len,hsg.len,k2,k3]
     simp +decide only [wT,kT,k2,k3]
    ·simp +contextual +decide (maxSteps:=1000000) only [↓ wP,wQ,tf,Nat.reduceAdd,wS,cv,cg,hsv.len,hsg.len,k1,k2,k3,w1,hf]
     simp +decide only [wT,kT,k1,k2,k3]
   ·simp +contextual +decide (maxSteps:=1000000) only [↓ wP,wQ,tf,Nat.reduceAdd,wS,cv,cg,hsv.len,hsg.len,k1,k2,w1,hf]
    simp +decide only [wT,kT,k1,k2]
 by_cases k1:n=1
 ·subst k1
  by_cases k3:((xv.length:Nat):Int)=1
  ·simp +contextual +decide (maxSteps:=1000000) only [↓ wP,wQ,tf,Nat.reduceAdd,wS,cv,cg,hsv.len,hsg.len,k3]
   simp +decide only [wT,kT,k3]
  ·simp +contextual +decide (maxSteps:=1000000) only [↓ wP,wQ,tf,Nat.reduceAdd,wS,cv,cg,hsv.len,k3]
   simp +decide only [wT,kT,k3]
 by_cases k2:n=2∨n=3∨n=4
 ·rcases k2 with rfl | rfl | rfl
  all_goals
   by_cases k3:((xv.length:Nat):Int)=0
   ·simp +contextual +decide (maxSteps:=1000000) only [↓ wP,wQ,tf,Nat.reduceAdd,wS,cv,cg,hsv.len,hsg.len,k3]
    simp +decide only [wT,kT,k3]
   ·simp +contextual +decide (maxSteps:=1000000) only [↓ wP,wQ,tf,Nat.reduceAdd,wS,cv,cg,hsv.len,k3]
    simp +decide only [wT,kT,k3]
 ·have e2:n≠2:=by omega
  have e3:n≠3:=by omega
  have e4:n≠4:=by omega
  simp +contextual +decide (maxSteps:=1000000) only [↓ wP,wQ,tf,Nat.reduceAdd,wS,cv,cg,k0,k1,e2,e3,e4];simp +decide only [wT,kT,k0,k1,e2,e3,e4]
end
end
end Go.Proofs.YtkocnhkbgcjpbaaGreat
