/-
  The program of meanings: worlds as they are defined.
-/
import Derived.Test.YtkocnhkbgcjpbaaGreatNa
set_option linter.unusedVariables false
set_option linter.unusedSimpArgs false
namespace Go.Proofs.YtkocnhkbgcjpbaaGreat
open Go.Abs Go Go.Abs.TryzF
noncomputable section
set_option maxRecDepth 10000
def gK:List AV->Option AV
 | [.int .i64 n,.int .i64 l,.int .i64 h]=>some (.bool (inR n l h))
 | _=>none
theorem aL {n l h:Int}:gK [.int .i64 n,.int .i64 l,.int .i64 h]=some (.bool (inR n l h)):=rfl
def uV:List AV->Option AV
 | [.int .i64 n]=>some (.bool (oG n))
 | _=>none
theorem iV {n:Int}:uV [.int .i64 n]=some (.bool (oG n)):=rfl
theorem within_ok:Abs.Ok Tryz.prog 145 gK:=by
 intro args v hg
 unfold gK at hg
 split at hg<;>cases hg
 rename_i n l h
 refine aH (L:=[]) aG aM (by kernel_rfl) Tryz.func145 Tryz.ntmps145 Tryz.results145 rfl rfl (aA aV (aA aV (aA aV aF))) aJ ?_
 by_cases h1:l<=n
 ·simp +contextual +decide (maxSteps:=1000000) only [↓ wP,wQ,tf,Nat.reduceAdd,wS,reduceCtorEq,h1]
  simp [inR,h1]
 ·simp +contextual +decide (maxSteps:=1000000) only [↓ wP,wQ,tf,Nat.reduceAdd,wS,reduceCtorEq,h1]
  simp [inR,h1]
theorem integer_ok:Abs.Ok Tryz.prog 146 uV:=by
 intro args v hg
 unfold uV at hg
 split at hg<;>cases hg
 rename_i n
 refine aH (L:=[ent 145 gK]) (elist_cons within_ok.ent aG) aM (by kernel_rfl) Tryz.func146 Tryz.ntmps146 Tryz.results146 rfl rfl (aA aV aF) aJ ?_
 simp +contextual +decide (maxSteps:=1000000) only [↓ wP,wQ,tf,Nat.reduceAdd,wS,reduceCtorEq,aL]
 rfl
theorem bW {n:Nat} (h:n<=9223372036854775807):IntKind.i64.wrap ((n:Int)-1)=(n:Int)-1:=IntWalk.i64_in _ (by omega)
structure RW (ns fs mm cs os ts us is uu:AV):Prop where
 ns:TSl eB ns
 fs:fL fs
 mm:cY mm
 cs:pY cs
 os:TSl pX os
 ts:fL ts
 us:TSl qC us
 is:fL is
 uu:cY uu
abbrev rn (ns fs mm cs os ts us is uu:AV):AV:=.pf (.agg [ns,fs,mm,cs,os,ts,us,is,uu])
section
variable {ns fs mm cs os ts us is uu:AV}
theorem RW.und (h:RW ns fs mm cs os ts us is uu):UnderE 0 (rn ns fs mm cs os ts us is uu):=bO (fU fun x hx=>by
 simp at hx
 rcases hx with rfl | rfl | rfl | rfl | rfl | rfl | rfl | rfl | rfl
 ·exact (dM _ h.ns).1
 ·exact (aP _ h.fs).1
 ·exact (tu_int _ h.mm).1
 ·exact (dN _ h.cs).1
 ·exact (kR _ h.os).1
 ·exact (aP _ h.ts).1
 ·exact (dG _ h.us).1
 ·exact (aP _ h.is).1
 ·exact (tu_int _ h.uu).1)
theorem RW.cells (h:RW ns fs mm cs os ts us is uu):ns.isCell=true/\fs.isCell=true/\mm.isCell=true/\cs.isCell=true/\os.isCell=true/\ts.isCell=true/\us.isCell=true/\is.isCell=true/\uu.isCell=true:=
 ⟨(dM _ h.ns).2,(aP _ h.fs).2,(tu_int _ h.mm).2,(dN _ h.cs).2,(kR _ h.os).2,(aP _ h.ts).2,(dG _ h.us).2,(aP _ h.is).2,(tu_int _ h.uu).2⟩
theorem IX {nf no k n:Int}:nO nf no (.agg [.int .i64 k,.int .i64 n])=if k=1 then oG n else if k=2 then inR n 0 1 else if k=3 then decide (n=0) else if k=4 then inR n 0 (nf-1) else if k=5 then inR n 0 (no-1) else false:=rfl
set_option maxHeartbeats 1000000 in
theorem YN (h:RW ns fs mm cs os ts us is uu) (x:AV) (hx:wJ x):Abs.Returns Tryz.prog 189 [rn ns fs mm cs os ts us is uu,x] (.bool (nO fs.els.length os.els.length x)):=by
 have hux:=(tk_val x hx).1
 obtain ⟨_,_,rfl,⟨k,rfl⟩,⟨n,rfl⟩⟩:=hx
 obtain ⟨xf,hf,_⟩:=h.fs
 obtain ⟨xo,ho,_⟩:=h.os
 obtain ⟨c1,c2,c3,c4,c5,c6,c7,c8,c9⟩:=h.cells
 have w1:=bW hf.2
 have w2:=bW ho.2
 refine aH (L:=[ent 145 gK,ent 146 uV]) (elist_cons within_ok.ent (elist_cons integer_ok.ent aG)) (fun r=>(bif Nat.beq r 9 then [9] else bif Nat.beq r 11 then [9] else [],[])) (by kernel_rfl) Tryz.func189 Tryz.ntmps189 Tryz.results189 rfl rfl (aA h.und.und (aA hux.und aF)) aJ ?_
 rw [hf.els,ho.els,IX]
 by_cases h1:k=1
 ·subst h1;simp +contextual +decide (maxSteps:=1000000) only [↓ wP,wQ,tf,Nat.reduceAdd,wS,reduceCtorEq,aL,iV]
 by_cases h2:k=2
 ·subst h2;simp +contextual +decide (maxSteps:=1000000) only [↓ wP,wQ,tf,Nat.reduceAdd,wS,reduceCtorEq,aL,iV]
 by_cases h3:k=3
 ·subst h3;simp +contextual +decide (maxSteps:=1000000) only [↓ wP,wQ,tf,Nat.reduceAdd,wS,reduceCtorEq,aL,iV]
 by_cases h4:k=4
 ·subst h4;simp +contextual +decide (maxSteps:=1000000) only [↓ wP,wQ,tf,Nat.reduceAdd,wS,reduceCtorEq,aL,iV,hf.len,hf.stab,w1,c1,c2,c3,c4,c5,c6,c7,c8,c9]
 by_cases h5:k=5
 ·subst h5;simp +contextual +decide (maxSteps:=1000000) only [↓ wP,wQ,tf,Nat.reduceAdd,wS,reduceCtorEq,aL,iV,ho.len,ho.stab,w2,c1,c2,c3,c4,c5,c6,c7,c8,c9]
 simp +contextual +decide (maxSteps:=1000000) only [↓ wP,wQ,tf,Nat.reduceAdd,wS,reduceCtorEq,h1,h2,h3,h4,h5]
end
end
end Go.Proofs.YtkocnhkbgcjpbaaGreat
/-
 The program of meanings: frames,tasks,objects.
-/
namespace Go.Proofs.YtkocnhkbgcjpbaaGreat
open Go.Abs Go Go.Abs.TryzF
noncomputable section
set_option maxRecDepth 10000
theorem AF (k:Int):k=6∨k=9∨k=10∨k=11∨k=12∨k=13∨k=18∨k=22∨k=14∨k=7∨k=8∨k=15∨k=16∨k=17∨k=19∨k=20∨k=23∨k=24∨k=26∨
 (k≠6/\k≠9/\k≠10/\k≠11/\k≠12/\k≠13/\k≠18/\k≠22/\k≠14/\k≠7/\k≠8/\k≠15/\k≠16/\k≠17/\k≠19/\k≠20/\k≠23/\k≠24/\k≠26):=by omega
set_option maxHeartbeats 4000000 in
theorem asks_ok:Abs.Ok Tryz.prog 225 (qY eB fun n=>.int .i64 (eC n)):=wA fun x hx=>by
 have hux:=(tk_node x hx).1
 obtain ⟨_,_,ki,pa,rfl,⟨k,rfl⟩,⟨n,rfl⟩,hk,hp⟩:=hx
 have ck:=(aP _ hk).2
 have cp:=(fE _ hp).2
 obtain ⟨xs,hks,_⟩:=hk
 refine aH (L:=[]) aG aM (by kernel_rfl) Tryz.func225 Tryz.ntmps225 Tryz.results225 rfl rfl (aA hux.und aF) aV ?_
 rcases AF k with rfl | rfl | rfl | rfl | rfl | rfl | rfl | rfl | rfl | rfl | rfl | rfl | rfl | rfl | rfl | rfl | rfl | rfl | rfl | h
 case inr.inr.inr.inr.inr.inr.inr.inr.inl=>simp +contextual +decide (maxSteps:=1000000) only [↓ wP,wQ,tf,Nat.reduceAdd,wS,reduceCtorEq,ck,cp,hks.len,hks.stab];simp [eC,AV.fld,AV.num,hks.els]
 case inr.inr.inr.inr.inr.inr.inr.inr.inr.inr.inr.inr.inr.inr.inr.inr.inr.inr.inr=>simp +contextual +decide (maxSteps:=1000000) only [↓ wP,wQ,tf,Nat.reduceAdd,wS,reduceCtorEq,ck,cp,h];simp [eC,AV.fld,AV.num,h]
 all_goals simp +contextual +decide (maxSteps:=1000000) only [↓ wP,wQ,tf,Nat.reduceAdd,wS,reduceCtorEq,ck,cp];rfl
abbrev rV (fv:AV) (p:AV->Bool):List AV->Option AV:=sV (fun a b=>gQ a/\b=fv) fun a _=>.bool (a.els.all p)
section
variable {ns fs mm cs os ts us is uu:AV}
abbrev pC (r:AV):AV:=.func (.func 189) [r] []
abbrev FL (r:AV):AV:=.func (.func 245) [r] []
abbrev YO (r:AV):AV:=.func (.func 246) [r] []
theorem oF {f:FuncId} {r:AV} (h:UnderE 0 r):UnderE 0 (.func (.func f) [r] []):=cC (by intro x hx;simp at hx;subst hx;exact h) (fun _ h=>nomatch h)
theorem QN (h:RW ns fs mm cs os ts us is uu):Abs.Ok Tryz.prog 188 (rV (pC (rn ns fs mm cs os ts us is uu)) (nO fs.els.length os.els.length)):=
 ok2 fun a b ⟨ha,e⟩=>by subst e;exact aEb (fun _ h=>h) _ (oF h.und) (fun x hx=>YN h x hx) ha
set_option maxHeartbeats 1000000 in
theorem YP (h:RW ns fs mm cs os ts us is uu) (x:AV) (hx:QP x):Abs.Returns Tryz.prog 245 [rn ns fs mm cs os ts us is uu,x] (.bool (IY ns.els fs.els.length os.els.length x)):=by
 have hux:=(tk_fr x hx).1
 obtain ⟨_,e,v,rfl,⟨n,rfl⟩,he,hv⟩:=hx
 have ce:=(aR _ he).2
 have cv:=(aR _ hv).2
 obtain ⟨xn,hn,hnx⟩:=h.ns
 obtain ⟨c1,c2,c3,c4,c5,c6,c7,c8,c9⟩:=h.cells
 have w1:=bW hn.2
 have a1:rV (pC (rn ns fs mm cs os ts us is uu)) (nO fs.els.length os.els.length) [e,pC (rn ns fs mm cs os ts us is uu)]=_:=sg2_eq ⟨he,rfl⟩
 have a2:rV (pC (rn ns fs mm cs os ts us is uu)) (nO fs.els.length os.els.length) [v,pC (rn ns fs mm cs os ts us is uu)]=_:=sg2_eq ⟨hv,rfl⟩
 obtain ⟨xe,hse,_⟩:=he
 obtain ⟨xv,hsv,_⟩:=hv
 refine aH (L:=[ent 145 gK,ent 225 (qY eB fun n=>.int .i64 (eC n)),ent 188 (rV (pC (rn ns fs mm cs os ts us is uu)) (nO fs.els.length os.els.length))]) (elist_cons within_ok.ent (elist_cons asks_ok.ent (elist_cons (QN h).ent aG))) (fun r=>(bif Nat.beq r 1 then [9,29,37,44] else [],[])) (by kernel_rfl) Tryz.func245 Tryz.ntmps245 Tryz.results245 rfl rfl (aA h.und.und (aA hux.und aF)) aJ ?_
 have hfr:IY ns.els fs.els.length os.els.length (.agg [.int .i64 n,e,v])=(inR n 0 ((xn.length:Int)-1)&&(decide (((xe.length:Nat):Int)<=30)&&xe.all (nO fs.els.length os.els.length))&&(decide (((xv.length:Nat):Int)<=eC (dY xn n))&&xv.all (nO fs.els.length os.els.length))):=by
  rw [hn.els];simp only [IY,eS,AV.fld,AV.num,List.getD_cons_zero,List.getD_cons_succ,hse.els,hsv.els]
 rw [hfr]
 rw [hse.els]at a1
 rw [hsv.els]at a2
 cases k1:inR n 0 ((xn.length:Int)-1) with
 | false=>simp +contextual +decide (maxSteps:=1000000) only [↓ wP,wQ,tf,Nat.reduceAdd,wS,reduceCtorEq,aL,hn.len,hn.stab,w1,c1,c2,c3,c4,c5,c6,c7,c8,c9,ce,cv,k1]
 | true=>
   have hb:=k1
   simp only [inR,Bool.and_eq_true,decide_eq_true_eq]at hb
   have hlt:n.toNat<xn.length:=by omega
   have hg:=List.getElem?_eq_getElem hlt
   have hat:dY xn n=xn[n.toNat]:=by simp [dY,List.getD_eq_getElem?_getD,hg]
   have hD:=hnx _ (List.getElem_mem hlt)
   rw [hat]
   generalize xn[n.toNat]=y at *
   have hix:=fun {q d}=>FP hb.1 hg (tk_node.len hD) (q:=q) (d:=d)
   have hpf:=fun {d}=>tk_node.pf hD (d:=d)
   have ha:qY eB (fun n=>.int .i64 (eC n)) [y]=_:=bU hD
   by_cases k2:((xe.length:Nat):Int)<=30
   ·by_cases k3:((xv.length:Nat):Int)<=eC y
    ·cases k4:xe.all (nO fs.els.length os.els.length) with
     | false=>simp +contextual +decide (maxSteps:=1000000) only [↓ wP,wQ,tf,Nat.reduceAdd,wS,reduceCtorEq,aL,hn.len,hn.stab,hn.idx,hse.len,hse.stab,hsv.len,hsv.stab,w1,c1,c2,c3,c4,c5,c6,c7,c8,c9,ce,cv,k1,hix,hpf,ha,k2,k3,a1,k4]
     | true=>simp +contextual +decide (maxSteps:=1000000) only [↓ wP,wQ,tf,Nat.reduceAdd,wS,reduceCtorEq,aL,hn.len,hn.stab,hn.idx,hse.len,hse.stab,hsv.len,hsv.stab,w1,c1,c2,c3,c4,c5,c6,c7,c8,c9,ce,cv,k1,hix,hpf,ha,k2,k3,a1,k4,a2]
    ·simp +contextual +decide (maxSteps:=1000000) only [↓ wP,wQ,tf,Nat.reduceAdd,wS,reduceCtorEq,aL,hn.len,hn.stab,hn.idx,hse.len,hse.stab,hsv.len,hsv.stab,w1,c1,c2,c3,c4,c5,c6,c7,c8,c9,ce,cv,k1,hix,hpf,ha,k2,k3]
   ·simp +contextual +decide (maxSteps:=1000000) only [↓ wP,wQ,tf,Nat.reduceAdd,wS,reduceCtorEq,aL,hn.len,hn.stab,hn.idx,hse.len,hse.stab,w1,c1,c2,c3,c4,c5,c6,c7,c8,c9,ce,cv,k1,k2]
end
end
end Go.Proofs.YtkocnhkbgcjpbaaGreat
/-
 The program of meanings: open frames,tasks,objects.
-/
namespace Go.Proofs.YtkocnhkbgcjpbaaGreat
open Go.Abs Go Go.Abs.TryzF
noncomputable section
set_option maxRecDepth 10000
section
variable {ns fs mm cs os ts us is uu:AV}
def TFn (ns x:AV):Prop:=QP x/\inR (x.fld 0).num 0 ((ns.els.length:Int)-1)=true
set_option maxHeartbeats 1000000 in
theorem aDv (h:RW ns fs mm cs os ts us is uu) (x:AV) (hx:TFn ns x):Abs.Returns Tryz.prog 246 [rn ns fs mm cs os ts us is uu,x] (.bool (fT ns.els x)):=by
 obtain ⟨hx,hin⟩:=hx
 have hux:=(tk_fr x hx).1
 obtain ⟨_,e,v,rfl,⟨n,rfl⟩,he,hv⟩:=hx
 have ce:=(aR _ he).2
 have cv:=(aR _ hv).2
 obtain ⟨xn,hn,hnx⟩:=h.ns
 obtain ⟨c1,c2,c3,c4,c5,c6,c7,c8,c9⟩:=h.cells
 obtain ⟨xv,hsv,_⟩:=hv
 refine aH (L:=[ent 225 (qY eB fun n=>.int .i64 (eC n))]) (elist_cons asks_ok.ent aG) (fun r=>(bif Nat.beq r 1 then [12] else [],[])) (by kernel_rfl) Tryz.func246 Tryz.ntmps246 Tryz.results246 rfl rfl (aA h.und.und (aA hux.und aF)) aJ ?_
 have hfr:fT ns.els (.agg [.int .i64 n,e,v])=decide (((xv.length:Nat):Int)<eC (dY xn n)):=by
  rw [hn.els];simp only [fT,AV.fld,AV.num,List.getD_cons_zero,List.getD_cons_succ,hsv.els]
 rw [hfr]
 rw [hn.els]at hin
 have hb:0<=n/\n<=(xn.length:Int)-1:=by simpa [inR,AV.fld,AV.num] using hin
 have hlt:n.toNat<xn.length:=by omega
 have hg:=List.getElem?_eq_getElem hlt
 have hat:dY xn n=xn[n.toNat]:=by simp [dY,List.getD_eq_getElem?_getD,hg]
 have hD:=hnx _ (List.getElem_mem hlt)
 rw [hat]
 generalize xn[n.toNat]=y at *
 have hix:=fun {q d}=>FP hb.1 hg (tk_node.len hD) (q:=q) (d:=d)
 have hpf:=fun {d}=>tk_node.pf hD (d:=d)
 have ha:qY eB (fun n=>.int .i64 (eC n)) [y]=_:=bU hD
 simp +contextual +decide (maxSteps:=1000000) only [↓ wP,wQ,tf,Nat.reduceAdd,wS,reduceCtorEq,hn.idx,hsv.len,hsv.stab,c1,c2,c3,c4,c5,c6,c7,c8,c9,ce,cv,hix,hpf,ha]
abbrev DA (ns fs os r:AV):List AV->Option AV:=sV (fun a b=>(uX a/\b=FL r)∨(TSl (TFn ns) a/\b=YO r)) fun a b=>.bool (@ite _ (b=FL r) (Classical.propDecidable _) (a.els.all (IY ns.els fs.els.length os.els.length)) (a.els.all (fT ns.els)))
theorem QO {r:AV}:YO r≠FL r:=by
 intro h;injection h with h1;injection h1 with h1;revert h1;decide
theorem YQ (h:RW ns fs mm cs os ts us is uu):Abs.Ok Tryz.prog 244 (DA ns fs os (rn ns fs mm cs os ts us is uu)):=
 ok2 fun a b hab=>by
  rcases hab with ⟨ha,e⟩ | ⟨ha,e⟩
  ·subst e;rw [if_pos rfl];exact ZB (fun _ h=>h) _ (oF h.und) (fun x hx=>YP h x hx) ha
  ·subst e;rw [if_neg QO];exact ZB (fun _ h=>h.1) _ (oF h.und) (fun x hx=>aDv h x hx) ha
def dU (ns:List AV) (nf no:Int) (l:List AV) (last:Int):Bool:=mT ns nf no l&&(l.take (max 0 ((l.length:Int)-last)).toNat).all (fT ns)
theorem uW {ns:List AV} {nf no:Int} {x:AV} (h:IY ns nf no x=true):inR (x.fld 0).num 0 ((ns.length:Int)-1)=true:=by
 simp only [IY,Bool.and_eq_true]at h;exact h.1.1
set_option maxHeartbeats 1000000 in
theorem TD (h:RW ns fs mm cs os ts us is uu) (a:AV) (ha:uX a) (last:Int) (h0:0<=last) (h1:last<=1):Abs.Returns Tryz.prog 190 [rn ns fs mm cs os ts us is uu,a,.int .i64 last] (.bool (dU ns.els fs.els.length os.els.length a.els last)):=by
 have hua:=(fD a ha).1
 have a1:DA ns fs os (rn ns fs mm cs os ts us is uu) [a,FL (rn ns fs mm cs os ts us is uu)]=some (.bool (a.els.all (IY ns.els fs.els.length os.els.length))):=by rw [DA,sg2_eq (.inl ⟨ha,rfl⟩),if_pos rfl]
 obtain ⟨xs,hs,hx⟩:=ha
 have hl:=hs.2
 refine aH (L:=[ent 244 (DA ns fs os (rn ns fs mm cs os ts us is uu))]) (elist_cons (YQ h).ent aG) aM (by kernel_rfl) Tryz.func190 Tryz.ntmps190 Tryz.results190 rfl rfl (aA h.und.und (aA hua.und (aA aV aF))) aJ ?_
 rw [hs.els]at a1 ⊢
 by_cases k1:((xs.length:Nat):Int)<=40
 ·have k1':xs.length<=40:=by omega
  cases k2:xs.all (IY ns.els fs.els.length os.els.length) with
  | false=>simp +contextual +decide (maxSteps:=1000000) only [↓ wP,wQ,tf,Nat.reduceAdd,wS,reduceCtorEq,hs.len,hs.stab,k1,a1,k2];simp [dU,mT,k2]
  | true=>
    have w1:IntKind.i64.wrap (((xs.length:Nat):Int)-last)=((xs.length:Nat):Int)-last:=IntWalk.i64_in _ (by omega)
    obtain ⟨b,hb,hsl⟩:=hs.upto (k:=3) (fun x hm=>tk_fr.len (hx x hm)) (n:=max 0 (((xs.length:Nat):Int)-last)) (by omega) (by omega)
    have hbt:TSl (TFn ns) b:=⟨_,hb,fun x hm=>⟨hx x (List.mem_of_mem_take hm),uW (List.all_eq_true.1 k2 x (List.mem_of_mem_take hm))⟩⟩
    have a2:DA ns fs os (rn ns fs mm cs os ts us is uu) [b,YO (rn ns fs mm cs os ts us is uu)]=some (.bool (b.els.all (fT ns.els))):=by rw [DA,sg2_eq (.inr ⟨hbt,rfl⟩),if_neg QO]
    rw [hb.els]at a2
    have hm:(if ((xs.length:Nat):Int)-last > 0 then ((xs.length:Nat):Int)-last else 0)=max 0 (((xs.length:Nat):Int)-last):=by split<;>omega
    simp +contextual +decide (maxSteps:=1000000) only [↓ wP,wQ,tf,Nat.reduceAdd,wS,reduceCtorEq,hs.len,hs.stab,k1,a1,k2,w1,ZG,hm,hsl,a2]
    simp [dU,mT,k1',k2]
 ·simp +contextual +decide (maxSteps:=1000000) only [↓ wP,wQ,tf,Nat.reduceAdd,wS,reduceCtorEq,hs.len,hs.stab,k1]
  have:¬ xs.length<=40:=by omega
  simp [dU,mT,this]
end
end
end Go.Proofs.YtkocnhkbgcjpbaaGreat
/-
 The program of meanings: tasks and objects.
-/
namespace Go.Proofs.YtkocnhkbgcjpbaaGreat
open Go.Abs Go Go.Abs.TryzF
noncomputable section
set_option maxRecDepth 10000
section
variable {ns fs mm cs os ts us is uu:AV}
def jO (ns:List AV) (nf no:Int) (n:Int) (vs fs:List AV):Bool:=
 if n=0 then !(decide (1<(vs.length:Int))||(decide ((fs.length:Int)=0)&&decide ((vs.length:Int)=0)))&&dU ns nf no fs (1-(vs.length:Int))
 else if n=1 then decide ((vs.length:Int)=1)&&decide ((fs.length:Int)=0)
 else if n=2 then decide ((vs.length:Int)=0)&&decide ((fs.length:Int)=0) else if n=3 then decide ((vs.length:Int)=0)&&decide ((fs.length:Int)=0)
 else if n=4 then decide ((vs.length:Int)=0)&&decide ((fs.length:Int)=0) else false
def jL (ns cs:List AV) (nf no:Int) (k n:Int) (vs fs:List AV):Bool:=
 vs.all (nO nf no)&&(
 if k=1 then decide ((fs.length:Int)=0)&&inR n 0 ((cs.length:Int)-1)&&decide ((vs.length:Int)=((cs.getD n.toNat .top).fld 1).num)
 else if k=2 then decide ((fs.length:Int)=0)&&inR n 0 ((ns.length:Int)-1)&&decide (((dY ns n).fld 0).num=5)&&decide ((vs.length:Int)<=30)
 else if k=3 then decide ((fs.length:Int)=0)&&decide (n=0)&&decide ((vs.length:Int)=1)
 else if k=4 then decide ((fs.length:Int)=0)&&decide (n=0)&&decide ((vs.length:Int)<=4)
 else if k=5 then decide (n=0)&&decide ((vs.length:Int)=0)&&decide (0<(fs.length:Int))&&dU ns nf no fs 0&&decide (((dY ns ((fs.getD 0 .top).fld 0).num).fld 0).num=26)
 else if k=6 then jO ns nf no n vs fs else false)
def yR (ns fs os r:AV):List AV->Option AV:=ZE (fun a b c=>a=r/\uX b/\∃ l,c=.int .i64 l/\0<=l/\l<=1) fun _ b c=>.bool (dU ns.els fs.els.length os.els.length b.els c.num)
theorem AG (h:RW ns fs mm cs os ts us is uu):Abs.Ok Tryz.prog 190 (yR ns fs os (rn ns fs mm cs os ts us is uu)):=
 ok3 fun a b c ⟨e,hb,l,e',h0,h1⟩=>by subst e;subst e';exact TD h b hb l h0 h1
theorem AH {ns fs os r b:AV} {l:Int} (hb:uX b) (h0:0<=l) (h1:l<=1):yR ns fs os r [r,b,.int .i64 l]=some (.bool (dU ns.els fs.els.length os.els.length b.els l)):=nP ⟨rfl,hb,l,rfl,h0,h1⟩
set_option maxHeartbeats 2000000 in
theorem aDw (h:RW ns fs mm cs os ts us is uu) (k n:Int) (vs gs:AV) (hv:gQ vs) (hg:uX gs):
 Abs.Returns Tryz.prog 191 [rn ns fs mm cs os ts us is uu,.agg [.int .i64 k,.int .i64 n,vs,gs]] (.bool (jO ns.els fs.els.length os.els.length n vs.els gs.els)):=by
 have huo:UnderE 0 (.agg [.int .i64 k,.int .i64 n,vs,gs]):=(tk_ob _ ⟨_,_,_,_,rfl,⟨_,rfl⟩,⟨_,rfl⟩,hv,hg⟩).1
 have cv:=(aR _ hv).2
 have cg:=(fD _ hg).2
 obtain ⟨xv,hsv,_⟩:=hv
 have hf:=fun {l}=>AH (ns:=ns) (fs:=fs) (os:=os) (r:=rn ns fs mm cs os ts us is uu) (l:=l) hg
 obtain ⟨xg,hsg,_⟩:=hg
 have hl:=hsv.2
 rw [hsv.els,hsg.els]
 rw [hsg.els]at hf
 refine aH (L:=[ent 190 (yR ns fs os (rn ns fs mm cs os ts us is uu))]) (elist_cons (AG h).ent aG) aM (by kernel_rfl) Tryz.func191 Tryz.ntmps191 Tryz.results191 rfl rfl (aA h.und.und (aA huo.und aF)) aJ ?_
 have hgt:(((xv.length:Nat):Int) > 1)=(1<((xv.length:Nat):Int)):=rfl
 by_cases k0:n=0
 ·subst k0
  by_cases k1:1<((xv.length:Nat):Int)
  ·simp +contextual +decide (maxSteps:=1000000) only [↓ wP,wQ,tf,Nat.reduceAdd,wS,reduceCtorEq,cv,cg,hsv.len,hsv.stab,k1]
   simp +decide only [wT,AV.fld,AV.num,jO,k1]
  ·have w1:IntKind.i64.wrap (1-((xv.length:Nat):Int))=1-((xv.length:Nat):Int):=IntWalk.i64_in _ (by omega)
   have hf:=hf (l:=1-((xv.length:Nat):Int)) (by omega) (by omega)
   by_cases k2:((xg.length:Nat):Int)=0
   ·by_cases k3:((xv.length:Nat):Int)=0
    ·simp +contextual +decide (maxSteps:=1000000) only [↓ wP,wQ,tf,Nat.reduceAdd,wS,reduceCtorEq,cv,cg,hsv.len,hsv.stab,hsg.len,hsg.stab,k1,k2,k3]
     simp +decide only [wT,AV.fld,AV.num,jO,k1,k2,k3]
    ·simp +contextual +decide (maxSteps:=1000000) only [↓ wP,wQ,tf,Nat.reduceAdd,wS,reduceCtorEq,cv,cg,hsv.len,hsv.stab,hsg.len,hsg.stab,k1,k2,k3,w1,hf]
     simp +decide only [wT,AV.fld,AV.num,jO,k1,k2,k3]
   ·simp +contextual +decide (maxSteps:=1000000) only [↓ wP,wQ,tf,Nat.reduceAdd,wS,reduceCtorEq,cv,cg,hsv.len,hsv.stab,hsg.len,hsg.stab,k1,k2,w1,hf]
    simp +decide only [wT,AV.fld,AV.num,jO,k1,k2]
 by_cases k1:n=1
 ·subst k1
  by_cases k3:((xv.length:Nat):Int)=1
  ·simp +contextual +decide (maxSteps:=1000000) only [↓ wP,wQ,tf,Nat.reduceAdd,wS,reduceCtorEq,cv,cg,hsv.len,hsv.stab,hsg.len,hsg.stab,k3]
   simp +decide only [wT,AV.fld,AV.num,jO,k3]
  ·simp +contextual +decide (maxSteps:=1000000) only [↓ wP,wQ,tf,Nat.reduceAdd,wS,reduceCtorEq,cv,cg,hsv.len,hsv.stab,hsg.len,hsg.stab,k3]
   simp +decide only [wT,AV.fld,AV.num,jO,k3]
 by_cases k2:n=2∨n=3∨n=4
 ·rcases k2 with rfl | rfl | rfl
  all_goals
   by_cases k3:((xv.length:Nat):Int)=0
   ·simp +contextual +decide (maxSteps:=1000000) only [↓ wP,wQ,tf,Nat.reduceAdd,wS,reduceCtorEq,cv,cg,hsv.len,hsv.stab,hsg.len,hsg.stab,k3]
    simp +decide only [wT,AV.fld,AV.num,jO,k3]
   ·simp +contextual +decide (maxSteps:=1000000) only [↓ wP,wQ,tf,Nat.reduceAdd,wS,reduceCtorEq,cv,cg,hsv.len,hsv.stab,hsg.len,hsg.stab,k3]
    simp +decide only [wT,AV.fld,AV.num,jO,k3]
 ·have e2:n≠2:=by omega
  have e3:n≠3:=by omega
  have e4:n≠4:=by omega
  simp +contextual +decide (maxSteps:=1000000) only [↓ wP,wQ,tf,Nat.reduceAdd,wS,reduceCtorEq,cv,cg,k0,k1,e2,e3,e4]
  simp +decide only [wT,AV.fld,AV.num,jO,k0,k1,e2,e3,e4]
end
end
end Go.Proofs.YtkocnhkbgcjpbaaGreat
