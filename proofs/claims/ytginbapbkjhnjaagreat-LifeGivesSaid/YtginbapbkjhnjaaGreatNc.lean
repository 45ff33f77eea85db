/-
  The program of meanings: worlds as they are defined.
-/
import Derived.Test.YtginbapbkjhnjaaGreatNa
set_option linter.unusedVariables false
set_option linter.unusedSimpArgs false
namespace Go.Proofs.YtginbapbkjhnjaaGreat
open Go.Abs Go Go.Abs.TryzF
noncomputable section
set_option maxRecDepth 10000
def fK:List AV->Option AV
 | [.int .i64 n,.int .i64 l,.int .i64 h]=>some (.bool (inR n l h))
 | _=>none
theorem aI {n l h:Int}:fK [.int .i64 n,.int .i64 l,.int .i64 h]=some (.bool (inR n l h)):=rfl
def sV:List AV->Option AV
 | [.int .i64 n]=>some (.bool (mL n))
 | _=>none
theorem gU {n:Int}:sV [.int .i64 n]=some (.bool (mL n)):=rfl
theorem within_ok:Abs.Ok Tryz.prog 189 fK:=by
 intro args v hg
 unfold fK at hg
 split at hg<;>cases hg
 rename_i n l h
 refine aH (L:=[]) aG aO (by kernel_rfl) Tryz.func189 Tryz.ntmps189 Tryz.results189 rfl rfl (aA aQ (aA aQ (aA aQ aF))) aL ?_
 by_cases h1:l<=n
 ·simp +contextual +decide (maxSteps:=1000000) only [↓ wP,wQ,tf,Nat.reduceAdd,wS,reduceCtorEq,h1]
  simp [inR,h1]
 ·simp +contextual +decide (maxSteps:=1000000) only [↓ wP,wQ,tf,Nat.reduceAdd,wS,reduceCtorEq,h1]
  simp [inR,h1]
theorem integer_ok:Abs.Ok Tryz.prog 169 sV:=by
 intro args v hg
 unfold sV at hg
 split at hg<;>cases hg
 rename_i n
 refine aH (L:=[ent 189 fK]) (elist_cons within_ok.ent aG) aO (by kernel_rfl) Tryz.func169 Tryz.ntmps169 Tryz.results169 rfl rfl (aA aQ aF) aL ?_
 simp +contextual +decide (maxSteps:=1000000) only [↓ wP,wQ,tf,Nat.reduceAdd,wS,reduceCtorEq,aI]
 rfl
theorem bN {n:Nat} (h:n<=9223372036854775807):IntKind.i64.wrap ((n:Int)-1)=(n:Int)-1:=IntWalk.i64_in _ (by omega)
structure RW (ns fs mm cs os ts us is uu:AV):Prop where
 ns:TSl dL ns
 fs:fF fs
 mm:cD mm
 cs:oL cs
 os:TSl vM os
 ts:fF ts
 us:TSl oP us
 is:fF is
 uu:cD uu
abbrev rn (ns fs mm cs os ts us is uu:AV):AV:=.pf (.agg [ns,fs,mm,cs,os,ts,us,is,uu])
section
variable {ns fs mm cs os ts us is uu:AV}
theorem RW.und (h:RW ns fs mm cs os ts us is uu):UnderE 0 (rn ns fs mm cs os ts us is uu):=iG (eT fun x hx=>by
 simp at hx
 rcases hx with rfl | rfl | rfl | rfl | rfl | rfl | rfl | rfl | rfl
 ·exact (cT _ h.ns).1
 ·exact (aP _ h.fs).1
 ·exact (tu_int _ h.mm).1
 ·exact (cW _ h.cs).1
 ·exact (fM _ h.os).1
 ·exact (aP _ h.ts).1
 ·exact (cV _ h.us).1
 ·exact (aP _ h.is).1
 ·exact (tu_int _ h.uu).1)
theorem RW.cells (h:RW ns fs mm cs os ts us is uu):ns.isCell=true/\fs.isCell=true/\mm.isCell=true/\cs.isCell=true/\os.isCell=true/\ts.isCell=true/\us.isCell=true/\is.isCell=true/\uu.isCell=true:=
 ⟨(cT _ h.ns).2,(aP _ h.fs).2,(tu_int _ h.mm).2,(cW _ h.cs).2,(fM _ h.os).2,(aP _ h.ts).2,(cV _ h.us).2,(aP _ h.is).2,(tu_int _ h.uu).2⟩
theorem FY {nf no k n:Int}:lR nf no (.agg [.int .i64 k,.int .i64 n])=if k=1 then mL n else if k=2 then inR n 0 1 else if k=3 then decide (n=0) else if k=4 then inR n 0 (nf-1) else if k=5 then inR n 0 (no-1) else false:=rfl
set_option maxHeartbeats 1000000 in
theorem UZ (h:RW ns fs mm cs os ts us is uu) (x:AV) (hx:zU x):Abs.Returns Tryz.prog 258 [rn ns fs mm cs os ts us is uu,x] (.bool (lR fs.els.length os.els.length x)):=by
 have hux:=(tk_val x hx).1
 obtain ⟨_,_,rfl,⟨k,rfl⟩,⟨n,rfl⟩⟩:=hx
 obtain ⟨xf,hf,_⟩:=h.fs
 obtain ⟨xo,ho,_⟩:=h.os
 obtain ⟨c1,c2,c3,c4,c5,c6,c7,c8,c9⟩:=h.cells
 have w1:=bN hf.2
 have w2:=bN ho.2
 refine aH (L:=[ent 189 fK,ent 169 sV]) (elist_cons within_ok.ent (elist_cons integer_ok.ent aG)) (fun r=>(bif Nat.beq r 9 then [9] else bif Nat.beq r 11 then [9] else [],[])) (by kernel_rfl) Tryz.func258 Tryz.ntmps258 Tryz.results258 rfl rfl (aA h.und.und (aA hux.und aF)) aL ?_
 rw [hf.els,ho.els,FY]
 by_cases h1:k=1
 ·subst h1;simp +contextual +decide (maxSteps:=1000000) only [↓ wP,wQ,tf,Nat.reduceAdd,wS,reduceCtorEq,aI,gU]
 by_cases h2:k=2
 ·subst h2;simp +contextual +decide (maxSteps:=1000000) only [↓ wP,wQ,tf,Nat.reduceAdd,wS,reduceCtorEq,aI,gU]
 by_cases h3:k=3
 ·subst h3;simp +contextual +decide (maxSteps:=1000000) only [↓ wP,wQ,tf,Nat.reduceAdd,wS,reduceCtorEq,aI,gU]
 by_cases h4:k=4
 ·subst h4;simp +contextual +decide (maxSteps:=1000000) only [↓ wP,wQ,tf,Nat.reduceAdd,wS,reduceCtorEq,aI,gU,hf.len,hf.stab,w1,c1,c2,c3,c4,c5,c6,c7,c8,c9]
 by_cases h5:k=5
 ·subst h5;simp +contextual +decide (maxSteps:=1000000) only [↓ wP,wQ,tf,Nat.reduceAdd,wS,reduceCtorEq,aI,gU,ho.len,ho.stab,w2,c1,c2,c3,c4,c5,c6,c7,c8,c9]
 simp +contextual +decide (maxSteps:=1000000) only [↓ wP,wQ,tf,Nat.reduceAdd,wS,reduceCtorEq,h1,h2,h3,h4,h5]
end
theorem yA (k:Int):k=6∨k=9∨k=10∨k=11∨k=12∨k=13∨k=18∨k=22∨k=14∨k=7∨k=8∨k=15∨k=16∨k=17∨k=19∨k=20∨k=23∨k=24∨k=26∨
 (k≠6/\k≠9/\k≠10/\k≠11/\k≠12/\k≠13/\k≠18/\k≠22/\k≠14/\k≠7/\k≠8/\k≠15/\k≠16/\k≠17/\k≠19/\k≠20/\k≠23/\k≠24/\k≠26):=by omega
set_option maxHeartbeats 4000000 in
theorem asks_ok:Abs.Ok Tryz.prog 293 (rA dL fun n=>.int .i64 (dM n)):=vQ fun x hx=>by
 have hux:=(tk_node x hx).1
 obtain ⟨_,_,ki,pa,rfl,⟨k,rfl⟩,⟨n,rfl⟩,hk,hp⟩:=hx
 have ck:=(aP _ hk).2
 have cp:=(eG _ hp).2
 obtain ⟨xs,hks,_⟩:=hk
 refine aH (L:=[]) aG aO (by kernel_rfl) Tryz.func293 Tryz.ntmps293 Tryz.results293 rfl rfl (aA hux.und aF) aQ ?_
 rcases yA k with rfl | rfl | rfl | rfl | rfl | rfl | rfl | rfl | rfl | rfl | rfl | rfl | rfl | rfl | rfl | rfl | rfl | rfl | rfl | h
 case inr.inr.inr.inr.inr.inr.inr.inr.inl=>simp +contextual +decide (maxSteps:=1000000) only [↓ wP,wQ,tf,Nat.reduceAdd,wS,reduceCtorEq,ck,cp,hks.len,hks.stab];simp [dM,AV.fld,AV.num,hks.els]
 case inr.inr.inr.inr.inr.inr.inr.inr.inr.inr.inr.inr.inr.inr.inr.inr.inr.inr.inr=>simp +contextual +decide (maxSteps:=1000000) only [↓ wP,wQ,tf,Nat.reduceAdd,wS,reduceCtorEq,ck,cp,h];simp [dM,AV.fld,AV.num,h]
 all_goals simp +contextual +decide (maxSteps:=1000000) only [↓ wP,wQ,tf,Nat.reduceAdd,wS,reduceCtorEq,ck,cp];rfl
abbrev qE (fv:AV) (p:AV->Bool):List AV->Option AV:=rV (fun a b=>kI a/\b=fv) fun a _=>.bool (a.els.all p)
section
variable {ns fs mm cs os ts us is uu:AV}
abbrev nL (r:AV):AV:=.func (.func 258) [r] []
abbrev CU (r:AV):AV:=.func (.func 322) [r] []
abbrev VA (r:AV):AV:=.func (.func 323) [r] []
theorem mK {f:FuncId} {r:AV} (h:UnderE 0 r):UnderE 0 (.func (.func f) [r] []):=gO (by intro x hx;simp at hx;subst hx;exact h) (fun _ h=>nomatch h)
theorem NP (h:RW ns fs mm cs os ts us is uu):Abs.Ok Tryz.prog 257 (qE (nL (rn ns fs mm cs os ts us is uu)) (lR fs.els.length os.els.length)):=
 ok2 fun a b ⟨ha,e⟩=>by subst e;exact aAk (fun _ h=>h) _ (mK h.und) (fun x hx=>UZ h x hx) ha
set_option maxHeartbeats 1000000 in
theorem VB (h:RW ns fs mm cs os ts us is uu) (x:AV) (hx:IS x):Abs.Returns Tryz.prog 322 [rn ns fs mm cs os ts us is uu,x] (.bool (VD ns.els fs.els.length os.els.length x)):=by
 have hux:=(tk_fr x hx).1
 obtain ⟨_,e,v,rfl,⟨n,rfl⟩,he,hv⟩:=hx
 have ce:=(aT _ he).2
 have cv:=(aT _ hv).2
 obtain ⟨xn,hn,hnx⟩:=h.ns
 obtain ⟨c1,c2,c3,c4,c5,c6,c7,c8,c9⟩:=h.cells
 have w1:=bN hn.2
 have a1:qE (nL (rn ns fs mm cs os ts us is uu)) (lR fs.els.length os.els.length) [e,nL (rn ns fs mm cs os ts us is uu)]=_:=sg2_eq ⟨he,rfl⟩
 have a2:qE (nL (rn ns fs mm cs os ts us is uu)) (lR fs.els.length os.els.length) [v,nL (rn ns fs mm cs os ts us is uu)]=_:=sg2_eq ⟨hv,rfl⟩
 obtain ⟨xe,hse,_⟩:=he
 obtain ⟨xv,hsv,_⟩:=hv
 refine aH (L:=[ent 189 fK,ent 293 (rA dL fun n=>.int .i64 (dM n)),ent 257 (qE (nL (rn ns fs mm cs os ts us is uu)) (lR fs.els.length os.els.length))]) (elist_cons within_ok.ent (elist_cons asks_ok.ent (elist_cons (NP h).ent aG))) (fun r=>(bif Nat.beq r 1 then [9,29,37,44] else [],[])) (by kernel_rfl) Tryz.func322 Tryz.ntmps322 Tryz.results322 rfl rfl (aA h.und.und (aA hux.und aF)) aL ?_
 have hfr:VD ns.els fs.els.length os.els.length (.agg [.int .i64 n,e,v])=(inR n 0 ((xn.length:Int)-1)&&(decide (((xe.length:Nat):Int)<=30)&&xe.all (lR fs.els.length os.els.length))&&(decide (((xv.length:Nat):Int)<=dM (dG xn n))&&xv.all (lR fs.els.length os.els.length))):=by
  rw [hn.els];simp only [VD,eB,AV.fld,AV.num,List.getD_cons_zero,List.getD_cons_succ,hse.els,hsv.els]
 rw [hfr]
 rw [hse.els]at a1
 rw [hsv.els]at a2
 cases k1:inR n 0 ((xn.length:Int)-1) with
 | false=>simp +contextual +decide (maxSteps:=1000000) only [↓ wP,wQ,tf,Nat.reduceAdd,wS,reduceCtorEq,aI,hn.len,hn.stab,w1,c1,c2,c3,c4,c5,c6,c7,c8,c9,ce,cv,k1]
 | true=>
   have hb:=k1
   simp only [inR,Bool.and_eq_true,decide_eq_true_eq]at hb
   have hlt:n.toNat<xn.length:=by omega
   have hg:=List.getElem?_eq_getElem hlt
   have hat:dG xn n=xn[n.toNat]:=by simp [dG,List.getD_eq_getElem?_getD,hg]
   have hD:=hnx _ (List.getElem_mem hlt)
   rw [hat]
   generalize xn[n.toNat]=y at *
   have hix:=fun {q d}=>DA hb.1 hg (tk_node.len hD) (q:=q) (d:=d)
   have hpf:=fun {d}=>tk_node.pf hD (d:=d)
   have ha:rA dL (fun n=>.int .i64 (dM n)) [y]=_:=bW hD
   by_cases k2:((xe.length:Nat):Int)<=30
   ·by_cases k3:((xv.length:Nat):Int)<=dM y
    ·cases k4:xe.all (lR fs.els.length os.els.length) with
     | false=>simp +contextual +decide (maxSteps:=1000000) only [↓ wP,wQ,tf,Nat.reduceAdd,wS,reduceCtorEq,aI,hn.len,hn.stab,hn.idx,hse.len,hse.stab,hsv.len,hsv.stab,w1,c1,c2,c3,c4,c5,c6,c7,c8,c9,ce,cv,k1,hix,hpf,ha,k2,k3,a1,k4]
     | true=>simp +contextual +decide (maxSteps:=1000000) only [↓ wP,wQ,tf,Nat.reduceAdd,wS,reduceCtorEq,aI,hn.len,hn.stab,hn.idx,hse.len,hse.stab,hsv.len,hsv.stab,w1,c1,c2,c3,c4,c5,c6,c7,c8,c9,ce,cv,k1,hix,hpf,ha,k2,k3,a1,k4,a2]
    ·simp +contextual +decide (maxSteps:=1000000) only [↓ wP,wQ,tf,Nat.reduceAdd,wS,reduceCtorEq,aI,hn.len,hn.stab,hn.idx,hse.len,hse.stab,hsv.len,hsv.stab,w1,c1,c2,c3,c4,c5,c6,c7,c8,c9,ce,cv,k1,hix,hpf,ha,k2,k3]
   ·simp +contextual +decide (maxSteps:=1000000) only [↓ wP,wQ,tf,Nat.reduceAdd,wS,reduceCtorEq,aI,hn.len,hn.stab,hn.idx,hse.len,hse.stab,w1,c1,c2,c3,c4,c5,c6,c7,c8,c9,ce,cv,k1,k2]
end
section
variable {ns fs mm cs os ts us is uu:AV}
def TFn (ns x:AV):Prop:=IS x/\inR (x.fld 0).num 0 ((ns.els.length:Int)-1)=true
set_option maxHeartbeats 1000000 in
theorem aAe (h:RW ns fs mm cs os ts us is uu) (x:AV) (hx:TFn ns x):Abs.Returns Tryz.prog 323 [rn ns fs mm cs os ts us is uu,x] (.bool (iV ns.els x)):=by
 obtain ⟨hx,hin⟩:=hx
 have hux:=(tk_fr x hx).1
 obtain ⟨_,e,v,rfl,⟨n,rfl⟩,he,hv⟩:=hx
 have ce:=(aT _ he).2
 have cv:=(aT _ hv).2
 obtain ⟨xn,hn,hnx⟩:=h.ns
 obtain ⟨c1,c2,c3,c4,c5,c6,c7,c8,c9⟩:=h.cells
 obtain ⟨xv,hsv,_⟩:=hv
 refine aH (L:=[ent 293 (rA dL fun n=>.int .i64 (dM n))]) (elist_cons asks_ok.ent aG) (fun r=>(bif Nat.beq r 1 then [12] else [],[])) (by kernel_rfl) Tryz.func323 Tryz.ntmps323 Tryz.results323 rfl rfl (aA h.und.und (aA hux.und aF)) aL ?_
 have hfr:iV ns.els (.agg [.int .i64 n,e,v])=decide (((xv.length:Nat):Int)<dM (dG xn n)):=by
  rw [hn.els];simp only [iV,AV.fld,AV.num,List.getD_cons_zero,List.getD_cons_succ,hsv.els]
 rw [hfr]
 rw [hn.els]at hin
 have hb:0<=n/\n<=(xn.length:Int)-1:=by simpa [inR,AV.fld,AV.num] using hin
 have hlt:n.toNat<xn.length:=by omega
 have hg:=List.getElem?_eq_getElem hlt
 have hat:dG xn n=xn[n.toNat]:=by simp [dG,List.getD_eq_getElem?_getD,hg]
 have hD:=hnx _ (List.getElem_mem hlt)
 rw [hat]
 generalize xn[n.toNat]=y at *
 have hix:=fun {q d}=>DA hb.1 hg (tk_node.len hD) (q:=q) (d:=d)
 have hpf:=fun {d}=>tk_node.pf hD (d:=d)
 have ha:rA dL (fun n=>.int .i64 (dM n)) [y]=_:=bW hD
 simp +contextual +decide (maxSteps:=1000000) only [↓ wP,wQ,tf,Nat.reduceAdd,wS,reduceCtorEq,hn.idx,hsv.len,hsv.stab,c1,c2,c3,c4,c5,c6,c7,c8,c9,ce,cv,hix,hpf,ha]
abbrev AW (ns fs os r:AV):List AV->Option AV:=rV (fun a b=>(yD a/\b=CU r)∨(TSl (TFn ns) a/\b=VA r)) fun a b=>.bool (@ite _ (b=CU r) (Classical.propDecidable _) (a.els.all (VD ns.els fs.els.length os.els.length)) (a.els.all (iV ns.els)))
theorem NQ {r:AV}:VA r≠CU r:=by
 intro h;injection h with h1;injection h1 with h1;revert h1;decide
theorem VC (h:RW ns fs mm cs os ts us is uu):Abs.Ok Tryz.prog 321 (AW ns fs os (rn ns fs mm cs os ts us is uu)):=
 ok2 fun a b hab=>by
  rcases hab with ⟨ha,e⟩ | ⟨ha,e⟩
  ·subst e;rw [if_pos rfl];exact VQ (fun _ h=>h) _ (mK h.und) (fun x hx=>VB h x hx) ha
  ·subst e;rw [if_neg NQ];exact VQ (fun _ h=>h.1) _ (mK h.und) (fun x hx=>aAe h x hx) ha
def fB (ns:List AV) (nf no:Int) (l:List AV) (last:Int):Bool:=mM ns nf no l&&(l.take (max 0 ((l.length:Int)-last)).toNat).all (iV ns)
theorem sW {ns:List AV} {nf no:Int} {x:AV} (h:VD ns nf no x=true):inR (x.fld 0).num 0 ((ns.length:Int)-1)=true:=by
 simp only [VD,Bool.and_eq_true]at h;exact h.1.1
set_option maxHeartbeats 1000000 in
theorem PX (h:RW ns fs mm cs os ts us is uu) (a:AV) (ha:yD a) (last:Int) (h0:0<=last) (h1:last<=1):Abs.Returns Tryz.prog 259 [rn ns fs mm cs os ts us is uu,a,.int .i64 last] (.bool (fB ns.els fs.els.length os.els.length a.els last)):=by
 have hua:=(fL a ha).1
 have a1:AW ns fs os (rn ns fs mm cs os ts us is uu) [a,CU (rn ns fs mm cs os ts us is uu)]=some (.bool (a.els.all (VD ns.els fs.els.length os.els.length))):=by rw [AW,sg2_eq (.inl ⟨ha,rfl⟩),if_pos rfl]
 obtain ⟨xs,hs,hx⟩:=ha
 have hl:=hs.2
 refine aH (L:=[ent 321 (AW ns fs os (rn ns fs mm cs os ts us is uu))]) (elist_cons (VC h).ent aG) aO (by kernel_rfl) Tryz.func259 Tryz.ntmps259 Tryz.results259 rfl rfl (aA h.und.und (aA hua.und (aA aQ aF))) aL ?_
 rw [hs.els]at a1 ⊢
 by_cases k1:((xs.length:Nat):Int)<=40
 ·have k1':xs.length<=40:=by omega
  cases k2:xs.all (VD ns.els fs.els.length os.els.length) with
  | false=>simp +contextual +decide (maxSteps:=1000000) only [↓ wP,wQ,tf,Nat.reduceAdd,wS,reduceCtorEq,hs.len,hs.stab,k1,a1,k2];simp [fB,mM,k2]
  | true=>
    have w1:IntKind.i64.wrap (((xs.length:Nat):Int)-last)=((xs.length:Nat):Int)-last:=IntWalk.i64_in _ (by omega)
    obtain ⟨b,hb,hsl⟩:=hs.upto (k:=3) (fun x hm=>tk_fr.len (hx x hm)) (n:=max 0 (((xs.length:Nat):Int)-last)) (by omega) (by omega)
    have hbt:TSl (TFn ns) b:=⟨_,hb,fun x hm=>⟨hx x (List.mem_of_mem_take hm),sW (List.all_eq_true.1 k2 x (List.mem_of_mem_take hm))⟩⟩
    have a2:AW ns fs os (rn ns fs mm cs os ts us is uu) [b,VA (rn ns fs mm cs os ts us is uu)]=some (.bool (b.els.all (iV ns.els))):=by rw [AW,sg2_eq (.inr ⟨hbt,rfl⟩),if_neg NQ]
    rw [hb.els]at a2
    have hm:(if ((xs.length:Nat):Int)-last > 0 then ((xs.length:Nat):Int)-last else 0)=max 0 (((xs.length:Nat):Int)-last):=by split<;>omega
    simp +contextual +decide (maxSteps:=1000000) only [↓ wP,wQ,tf,Nat.reduceAdd,wS,reduceCtorEq,hs.len,hs.stab,k1,a1,k2,w1,VY,hm,hsl,a2]
    simp [fB,mM,k1',k2]
 ·simp +contextual +decide (maxSteps:=1000000) only [↓ wP,wQ,tf,Nat.reduceAdd,wS,reduceCtorEq,hs.len,hs.stab,k1]
  have:¬ xs.length<=40:=by omega
  simp [fB,mM,this]
end
section
variable {ns fs mm cs os ts us is uu:AV}
def kH (ns:List AV) (nf no:Int) (n:Int) (vs fs:List AV):Bool:=
 if n=0 then !(decide (1<(vs.length:Int))||(decide ((fs.length:Int)=0)&&decide ((vs.length:Int)=0)))&&fB ns nf no fs (1-(vs.length:Int))
 else if n=1 then decide ((vs.length:Int)=1)&&decide ((fs.length:Int)=0)
 else if n=2 then decide ((vs.length:Int)=0)&&decide ((fs.length:Int)=0) else if n=3 then decide ((vs.length:Int)=0)&&decide ((fs.length:Int)=0)
 else if n=4 then decide ((vs.length:Int)=0)&&decide ((fs.length:Int)=0) else false
def jG (ns cs:List AV) (nf no:Int) (k n:Int) (vs fs:List AV):Bool:=
 vs.all (lR nf no)&&(
 if k=1 then decide ((fs.length:Int)=0)&&inR n 0 ((cs.length:Int)-1)&&decide ((vs.length:Int)=((cs.getD n.toNat .top).fld 1).num)
 else if k=2 then decide ((fs.length:Int)=0)&&inR n 0 ((ns.length:Int)-1)&&decide (((dG ns n).fld 0).num=5)&&decide ((vs.length:Int)<=30)
 else if k=3 then decide ((fs.length:Int)=0)&&decide (n=0)&&decide ((vs.length:Int)=1)
 else if k=4 then decide ((fs.length:Int)=0)&&decide (n=0)&&decide ((vs.length:Int)<=4)
 else if k=5 then decide (n=0)&&decide ((vs.length:Int)=0)&&decide (0<(fs.length:Int))&&fB ns nf no fs 0&&decide (((dG ns ((fs.getD 0 .top).fld 0).num).fld 0).num=26)
 else if k=6 then kH ns nf no n vs fs else false)
def wR (ns fs os r:AV):List AV->Option AV:=VV (fun a b c=>a=r/\yD b/\∃ l,c=.int .i64 l/\0<=l/\l<=1) fun _ b c=>.bool (fB ns.els fs.els.length os.els.length b.els c.num)
theorem yB (h:RW ns fs mm cs os ts us is uu):Abs.Ok Tryz.prog 259 (wR ns fs os (rn ns fs mm cs os ts us is uu)):=
 ok3 fun a b c ⟨e,hb,l,e',h0,h1⟩=>by subst e;subst e';exact PX h b hb l h0 h1
theorem yC {ns fs os r b:AV} {l:Int} (hb:yD b) (h0:0<=l) (h1:l<=1):wR ns fs os r [r,b,.int .i64 l]=some (.bool (fB ns.els fs.els.length os.els.length b.els l)):=lS ⟨rfl,hb,l,rfl,h0,h1⟩
set_option maxHeartbeats 2000000 in
theorem aAf (h:RW ns fs mm cs os ts us is uu) (k n:Int) (vs gs:AV) (hv:kI vs) (hg:yD gs):
 Abs.Returns Tryz.prog 260 [rn ns fs mm cs os ts us is uu,.agg [.int .i64 k,.int .i64 n,vs,gs]] (.bool (kH ns.els fs.els.length os.els.length n vs.els gs.els)):=by
 have huo:UnderE 0 (.agg [.int .i64 k,.int .i64 n,vs,gs]):=(tk_ob _ ⟨_,_,_,_,rfl,⟨_,rfl⟩,⟨_,rfl⟩,hv,hg⟩).1
 have cv:=(aT _ hv).2
 have cg:=(fL _ hg).2
 obtain ⟨xv,hsv,_⟩:=hv
 have hf:=fun {l}=>yC (ns:=ns) (fs:=fs) (os:=os) (r:=rn ns fs mm cs os ts us is uu) (l:=l) hg
 obtain ⟨xg,hsg,_⟩:=hg
 have hl:=hsv.2
 rw [hsv.els,hsg.els]
 rw [hsg.els]at hf
 refine aH (L:=[ent 259 (wR ns fs os (rn ns fs mm cs os ts us is uu))]) (elist_cons (yB h).ent aG) aO (by kernel_rfl) Tryz.func260 Tryz.ntmps260 Tryz.results260 rfl rfl (aA h.und.und (aA huo.und aF)) aL ?_
 have hgt:(((xv.length:Nat):Int) > 1)=(1<((xv.length:Nat):Int)):=rfl
 by_cases k0:n=0
 ·subst k0
  by_cases k1:1<((xv.length:Nat):Int)
  ·simp +contextual +decide (maxSteps:=1000000) only [↓ wP,wQ,tf,Nat.reduceAdd,wS,reduceCtorEq,cv,cg,hsv.len,hsv.stab,k1]
   simp +decide only [wT,AV.fld,AV.num,kH,k1]
  ·have w1:IntKind.i64.wrap (1-((xv.length:Nat):Int))=1-((xv.length:Nat):Int):=IntWalk.i64_in _ (by omega)
   have hf:=hf (l:=1-((xv.length:Nat):Int)) (by omega) (by omega)
   by_cases k2:((xg.length:Nat):Int)=0
   ·by_cases k3:((xv.length:Nat):Int)=0
    ·simp +contextual +decide (maxSteps:=1000000) only [↓ wP,wQ,tf,Nat.reduceAdd,wS,reduceCtorEq,cv,cg,hsv.len,hsv.stab,hsg.len,hsg.stab,k1,k2,k3]
     simp +decide only [wT,AV.fld,AV.num,kH,k1,k2,k3]
    ·simp +contextual +decide (maxSteps:=1000000) only [↓ wP,wQ,tf,Nat.reduceAdd,wS,reduceCtorEq,cv,cg,hsv.len,hsv.stab,hsg.len,hsg.stab,k1,k2,k3,w1,hf]
     simp +decide only [wT,AV.fld,AV.num,kH,k1,k2,k3]
   ·simp +contextual +decide (maxSteps:=1000000) only [↓ wP,wQ,tf,Nat.reduceAdd,wS,reduceCtorEq,cv,cg,hsv.len,hsv.stab,hsg.len,hsg.stab,k1,k2,w1,hf]
    simp +decide only [wT,AV.fld,AV.num,kH,k1,k2]
 by_cases k1:n=1
 ·subst k1
  by_cases k3:((xv.length:Nat):Int)=1
  ·simp +contextual +decide (maxSteps:=1000000) only [↓ wP,wQ,tf,Nat.reduceAdd,wS,reduceCtorEq,cv,cg,hsv.len,hsv.stab,hsg.len,hsg.stab,k3]
   simp +decide only [wT,AV.fld,AV.num,kH,k3]
  ·simp +contextual +decide (maxSteps:=1000000) only [↓ wP,wQ,tf,Nat.reduceAdd,wS,reduceCtorEq,cv,cg,hsv.len,hsv.stab,hsg.len,hsg.stab,k3]
   simp +decide only [wT,AV.fld,AV.num,kH,k3]
 by_cases k2:n=2∨n=3∨n=4
 ·rcases k2 with rfl | rfl | rfl
  all_goals
   by_cases k3:((xv.length:Nat):Int)=0
   ·simp +contextual +decide (maxSteps:=1000000) only [↓ wP,wQ,tf,Nat.reduceAdd,wS,reduceCtorEq,cv,cg,hsv.len,hsv.stab,hsg.len,hsg.stab,k3]
    simp +decide only [wT,AV.fld,AV.num,kH,k3]
   ·simp +contextual +decide (maxSteps:=1000000) only [↓ wP,wQ,tf,Nat.reduceAdd,wS,reduceCtorEq,cv,cg,hsv.len,hsv.stab,hsg.len,hsg.stab,k3]
    simp +decide only [wT,AV.fld,AV.num,kH,k3]
 ·have e2:n≠2:=by omega
  have e3:n≠3:=by omega
  have e4:n≠4:=by omega
  simp +contextual +decide (maxSteps:=1000000) only [↓ wP,wQ,tf,Nat.reduceAdd,wS,reduceCtorEq,cv,cg,k0,k1,e2,e3,e4]
  simp +decide only [wT,AV.fld,AV.num,kH,k0,k1,e2,e3,e4]
end
end
end Go.Proofs.YtginbapbkjhnjaaGreat
