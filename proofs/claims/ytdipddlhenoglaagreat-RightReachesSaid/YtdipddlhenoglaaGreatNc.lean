/-
  The program of meanings: worlds as they are defined.
-/
import Derived.Test.YtdipddlhenoglaaGreatNa
set_option linter.unusedVariables false
set_option linter.unusedSimpArgs false
namespace Go.Proofs.YtdipddlhenoglaaGreat
open Go.Abs Go Go.Abs.TryzF
noncomputable section
set_option maxRecDepth 10000
def fI:List AV->Option AV
 | [.int .i64 n,.int .i64 l,.int .i64 h]=>some (.bool (inR n l h))
 | _=>none
theorem aI {n l h:Int}:fI [.int .i64 n,.int .i64 l,.int .i64 h]=some (.bool (inR n l h)):=rfl
def vO:List AV->Option AV
 | [.int .i64 n]=>some (.bool (oH n))
 | _=>none
theorem iO {n:Int}:vO [.int .i64 n]=some (.bool (oH n)):=rfl
theorem within_ok:Abs.Ok Tryz.prog 187 fI:=by
 intro args v hg
 unfold fI at hg
 split at hg<;>cases hg
 rename_i n l h
 refine aH (L:=[]) aG aM (by kernel_rfl) Tryz.func187 Tryz.ntmps187 Tryz.results187 rfl rfl (aA aS (aA aS (aA aS aF))) aL ?_
 by_cases h1:l<=n
 ·simp +contextual +decide (maxSteps:=1000000) only [↓ wP,wQ,tf,Nat.reduceAdd,wS,reduceCtorEq,h1]
  simp [inR,h1]
 ·simp +contextual +decide (maxSteps:=1000000) only [↓ wP,wQ,tf,Nat.reduceAdd,wS,reduceCtorEq,h1]
  simp [inR,h1]
theorem integer_ok:Abs.Ok Tryz.prog 188 vO:=by
 intro args v hg
 unfold vO at hg
 split at hg<;>cases hg
 rename_i n
 refine aH (L:=[ent 187 fI]) (elist_cons within_ok.ent aG) aM (by kernel_rfl) Tryz.func188 Tryz.ntmps188 Tryz.results188 rfl rfl (aA aS aF) aL ?_
 simp +contextual +decide (maxSteps:=1000000) only [↓ wP,wQ,tf,Nat.reduceAdd,wS,reduceCtorEq,aI]
 rfl
theorem bR {n:Nat} (h:n<=9223372036854775807):IntKind.i64.wrap ((n:Int)-1)=(n:Int)-1:=IntWalk.i64_in _ (by omega)
structure RW (ns fs mm cs os ts us is uu:AV):Prop where
 ns:TSl dU ns
 fs:gG fs
 mm:cM mm
 cs:qK cs
 os:TSl yR os
 ts:gG ts
 us:TSl vR us
 is:gG is
 uu:cM uu
abbrev rn (ns fs mm cs os ts us is uu:AV):AV:=.pf (.agg [ns,fs,mm,cs,os,ts,us,is,uu])
section
variable {ns fs mm cs os ts us is uu:AV}
theorem RW.und (h:RW ns fs mm cs os ts us is uu):UnderE 0 (rn ns fs mm cs os ts us is uu):=jK (gY fun x hx=>by
 simp at hx
 rcases hx with rfl | rfl | rfl | rfl | rfl | rfl | rfl | rfl | rfl
 ·exact (dM _ h.ns).1
 ·exact (aU _ h.fs).1
 ·exact (tu_int _ h.mm).1
 ·exact (dN _ h.cs).1
 ·exact (nK _ h.os).1
 ·exact (aU _ h.ts).1
 ·exact (jU _ h.us).1
 ·exact (aU _ h.is).1
 ·exact (tu_int _ h.uu).1)
theorem RW.cells (h:RW ns fs mm cs os ts us is uu):ns.isCell=true/\fs.isCell=true/\mm.isCell=true/\cs.isCell=true/\os.isCell=true/\ts.isCell=true/\us.isCell=true/\is.isCell=true/\uu.isCell=true:=
 ⟨(dM _ h.ns).2,(aU _ h.fs).2,(tu_int _ h.mm).2,(dN _ h.cs).2,(nK _ h.os).2,(aU _ h.ts).2,(jU _ h.us).2,(aU _ h.is).2,(tu_int _ h.uu).2⟩
theorem KH {nf no k n:Int}:jG nf no (.agg [.int .i64 k,.int .i64 n])=if k=1 then oH n else if k=2 then inR n 0 1 else if k=3 then decide (n=0) else if k=4 then inR n 0 (nf-1) else if k=5 then inR n 0 (no-1) else false:=rfl
set_option maxHeartbeats 1000000 in
theorem aAq (h:RW ns fs mm cs os ts us is uu) (x:AV) (hx:vQ x):Abs.Returns Tryz.prog 242 [rn ns fs mm cs os ts us is uu,x] (.bool (jG fs.els.length os.els.length x)):=by
 have hux:=(tk_val x hx).1
 obtain ⟨_,_,rfl,⟨k,rfl⟩,⟨n,rfl⟩⟩:=hx
 obtain ⟨xf,hf,_⟩:=h.fs
 obtain ⟨xo,ho,_⟩:=h.os
 obtain ⟨c1,c2,c3,c4,c5,c6,c7,c8,c9⟩:=h.cells
 have w1:=bR hf.2
 have w2:=bR ho.2
 refine aH (L:=[ent 187 fI,ent 188 vO]) (elist_cons within_ok.ent (elist_cons integer_ok.ent aG)) (fun r=>(bif Nat.beq r 9 then [9] else bif Nat.beq r 11 then [9] else [],[])) (by kernel_rfl) Tryz.func242 Tryz.ntmps242 Tryz.results242 rfl rfl (aA h.und.und (aA hux.und aF)) aL ?_
 rw [hf.els,ho.els,KH]
 by_cases h1:k=1
 ·subst h1;simp +contextual +decide (maxSteps:=1000000) only [↓ wP,wQ,tf,Nat.reduceAdd,wS,reduceCtorEq,aI,iO]
 by_cases h2:k=2
 ·subst h2;simp +contextual +decide (maxSteps:=1000000) only [↓ wP,wQ,tf,Nat.reduceAdd,wS,reduceCtorEq,aI,iO]
 by_cases h3:k=3
 ·subst h3;simp +contextual +decide (maxSteps:=1000000) only [↓ wP,wQ,tf,Nat.reduceAdd,wS,reduceCtorEq,aI,iO]
 by_cases h4:k=4
 ·subst h4;simp +contextual +decide (maxSteps:=1000000) only [↓ wP,wQ,tf,Nat.reduceAdd,wS,reduceCtorEq,aI,iO,hf.len,hf.stab,w1,c1,c2,c3,c4,c5,c6,c7,c8,c9]
 by_cases h5:k=5
 ·subst h5;simp +contextual +decide (maxSteps:=1000000) only [↓ wP,wQ,tf,Nat.reduceAdd,wS,reduceCtorEq,aI,iO,ho.len,ho.stab,w2,c1,c2,c3,c4,c5,c6,c7,c8,c9]
 simp +contextual +decide (maxSteps:=1000000) only [↓ wP,wQ,tf,Nat.reduceAdd,wS,reduceCtorEq,h1,h2,h3,h4,h5]
end
theorem BM (k:Int):k=6∨k=9∨k=10∨k=11∨k=12∨k=13∨k=18∨k=22∨k=14∨k=7∨k=8∨k=15∨k=16∨k=17∨k=19∨k=20∨k=23∨k=24∨k=26∨
 (k≠6/\k≠9/\k≠10/\k≠11/\k≠12/\k≠13/\k≠18/\k≠22/\k≠14/\k≠7/\k≠8/\k≠15/\k≠16/\k≠17/\k≠19/\k≠20/\k≠23/\k≠24/\k≠26):=by omega
set_option maxHeartbeats 4000000 in
theorem asks_ok:Abs.Ok Tryz.prog 321 (tP dU fun n=>.int .i64 (dV n)):=zK fun x hx=>by
 have hux:=(tk_node x hx).1
 obtain ⟨_,_,ki,pa,rfl,⟨k,rfl⟩,⟨n,rfl⟩,hk,hp⟩:=hx
 have ck:=(aU _ hk).2
 have cp:=(eS _ hp).2
 obtain ⟨xs,hks,_⟩:=hk
 refine aH (L:=[]) aG aM (by kernel_rfl) Tryz.func321 Tryz.ntmps321 Tryz.results321 rfl rfl (aA hux.und aF) aS ?_
 rcases BM k with rfl | rfl | rfl | rfl | rfl | rfl | rfl | rfl | rfl | rfl | rfl | rfl | rfl | rfl | rfl | rfl | rfl | rfl | rfl | h
 case inr.inr.inr.inr.inr.inr.inr.inr.inl=>simp +contextual +decide (maxSteps:=1000000) only [↓ wP,wQ,tf,Nat.reduceAdd,wS,reduceCtorEq,ck,cp,hks.len,hks.stab];simp [dV,AV.fld,AV.num,hks.els]
 case inr.inr.inr.inr.inr.inr.inr.inr.inr.inr.inr.inr.inr.inr.inr.inr.inr.inr.inr=>simp +contextual +decide (maxSteps:=1000000) only [↓ wP,wQ,tf,Nat.reduceAdd,wS,reduceCtorEq,ck,cp,h];simp [dV,AV.fld,AV.num,h]
 all_goals simp +contextual +decide (maxSteps:=1000000) only [↓ wP,wQ,tf,Nat.reduceAdd,wS,reduceCtorEq,ck,cp];rfl
abbrev sQ (fv:AV) (p:AV->Bool):List AV->Option AV:=xB (fun a b=>kI a/\b=fv) fun a _=>.bool (a.els.all p)
section
variable {ns fs mm cs os ts us is uu:AV}
abbrev pJ (r:AV):AV:=.func (.func 242) [r] []
abbrev HE (r:AV):AV:=.func (.func 302) [r] []
abbrev aAr (r:AV):AV:=.func (.func 303) [r] []
theorem oG {f:FuncId} {r:AV} (h:UnderE 0 r):UnderE 0 (.func (.func f) [r] []):=iG (by intro x hx;simp at hx;subst hx;exact h) (fun _ h=>nomatch h)
theorem SD (h:RW ns fs mm cs os ts us is uu):Abs.Ok Tryz.prog 241 (sQ (pJ (rn ns fs mm cs os ts us is uu)) (jG fs.els.length os.els.length)):=
 ok2 fun a b ⟨ha,e⟩=>by subst e;exact aGh (fun _ h=>h) _ (oG h.und) (fun x hx=>aAq h x hx) ha
set_option maxHeartbeats 1000000 in
theorem aAs (h:RW ns fs mm cs os ts us is uu) (x:AV) (hx:TFr x):Abs.Returns Tryz.prog 302 [rn ns fs mm cs os ts us is uu,x] (.bool (OW ns.els fs.els.length os.els.length x)):=by
 have hux:=(tk_fr x hx).1
 obtain ⟨_,e,v,rfl,⟨n,rfl⟩,he,hv⟩:=hx
 have ce:=(tu_vals _ he).2
 have cv:=(tu_vals _ hv).2
 obtain ⟨xn,hn,hnx⟩:=h.ns
 obtain ⟨c1,c2,c3,c4,c5,c6,c7,c8,c9⟩:=h.cells
 have w1:=bR hn.2
 have a1:sQ (pJ (rn ns fs mm cs os ts us is uu)) (jG fs.els.length os.els.length) [e,pJ (rn ns fs mm cs os ts us is uu)]=_:=sg2_eq ⟨he,rfl⟩
 have a2:sQ (pJ (rn ns fs mm cs os ts us is uu)) (jG fs.els.length os.els.length) [v,pJ (rn ns fs mm cs os ts us is uu)]=_:=sg2_eq ⟨hv,rfl⟩
 obtain ⟨xe,hse,_⟩:=he
 obtain ⟨xv,hsv,_⟩:=hv
 refine aH (L:=[ent 187 fI,ent 321 (tP dU fun n=>.int .i64 (dV n)),ent 241 (sQ (pJ (rn ns fs mm cs os ts us is uu)) (jG fs.els.length os.els.length))]) (elist_cons within_ok.ent (elist_cons asks_ok.ent (elist_cons (SD h).ent aG))) (fun r=>(bif Nat.beq r 1 then [9,29,37,44] else [],[])) (by kernel_rfl) Tryz.func302 Tryz.ntmps302 Tryz.results302 rfl rfl (aA h.und.und (aA hux.und aF)) aL ?_
 have hfr:OW ns.els fs.els.length os.els.length (.agg [.int .i64 n,e,v])=(inR n 0 ((xn.length:Int)-1)&&(decide (((xe.length:Nat):Int)<=30)&&xe.all (jG fs.els.length os.els.length))&&(decide (((xv.length:Nat):Int)<=dV (dQ xn n))&&xv.all (jG fs.els.length os.els.length))):=by
  rw [hn.els];simp only [OW,eB,AV.fld,AV.num,List.getD_cons_zero,List.getD_cons_succ,hse.els,hsv.els]
 rw [hfr]
 rw [hse.els]at a1
 rw [hsv.els]at a2
 cases k1:inR n 0 ((xn.length:Int)-1) with
 | false=>simp +contextual +decide (maxSteps:=1000000) only [↓ wP,wQ,tf,Nat.reduceAdd,wS,reduceCtorEq,aI,hn.len,hn.stab,w1,c1,c2,c3,c4,c5,c6,c7,c8,c9,ce,cv,k1]
 | true=>
   have hb:=k1
   simp only [inR,Bool.and_eq_true,decide_eq_true_eq]at hb
   have hlt:n.toNat<xn.length:=by omega
   have hg:=List.getElem?_eq_getElem hlt
   have hat:dQ xn n=xn[n.toNat]:=by simp [dQ,List.getD_eq_getElem?_getD,hg]
   have hD:=hnx _ (List.getElem_mem hlt)
   rw [hat]
   generalize xn[n.toNat]=y at *
   have hix:=fun {q d}=>jV hb.1 hg (tk_node.len hD) (q:=q) (d:=d)
   have hpf:=fun {d}=>tk_node.pf hD (d:=d)
   have ha:tP dU (fun n=>.int .i64 (dV n)) [y]=_:=cT hD
   by_cases k2:((xe.length:Nat):Int)<=30
   ·by_cases k3:((xv.length:Nat):Int)<=dV y
    ·cases k4:xe.all (jG fs.els.length os.els.length) with
     | false=>simp +contextual +decide (maxSteps:=1000000) only [↓ wP,wQ,tf,Nat.reduceAdd,wS,reduceCtorEq,aI,hn.len,hn.stab,hn.idx,hse.len,hse.stab,hsv.len,hsv.stab,w1,c1,c2,c3,c4,c5,c6,c7,c8,c9,ce,cv,k1,hix,hpf,ha,k2,k3,a1,k4]
     | true=>simp +contextual +decide (maxSteps:=1000000) only [↓ wP,wQ,tf,Nat.reduceAdd,wS,reduceCtorEq,aI,hn.len,hn.stab,hn.idx,hse.len,hse.stab,hsv.len,hsv.stab,w1,c1,c2,c3,c4,c5,c6,c7,c8,c9,ce,cv,k1,hix,hpf,ha,k2,k3,a1,k4,a2]
    ·simp +contextual +decide (maxSteps:=1000000) only [↓ wP,wQ,tf,Nat.reduceAdd,wS,reduceCtorEq,aI,hn.len,hn.stab,hn.idx,hse.len,hse.stab,hsv.len,hsv.stab,w1,c1,c2,c3,c4,c5,c6,c7,c8,c9,ce,cv,k1,hix,hpf,ha,k2,k3]
   ·simp +contextual +decide (maxSteps:=1000000) only [↓ wP,wQ,tf,Nat.reduceAdd,wS,reduceCtorEq,aI,hn.len,hn.stab,hn.idx,hse.len,hse.stab,w1,c1,c2,c3,c4,c5,c6,c7,c8,c9,ce,cv,k1,k2]
end
section
variable {ns fs mm cs os ts us is uu:AV}
def TFn (ns x:AV):Prop:=TFr x/\inR (x.fld 0).num 0 ((ns.els.length:Int)-1)=true
set_option maxHeartbeats 1000000 in
theorem aGb (h:RW ns fs mm cs os ts us is uu) (x:AV) (hx:TFn ns x):Abs.Returns Tryz.prog 303 [rn ns fs mm cs os ts us is uu,x] (.bool (kJ ns.els x)):=by
 obtain ⟨hx,hin⟩:=hx
 have hux:=(tk_fr x hx).1
 obtain ⟨_,e,v,rfl,⟨n,rfl⟩,he,hv⟩:=hx
 have ce:=(tu_vals _ he).2
 have cv:=(tu_vals _ hv).2
 obtain ⟨xn,hn,hnx⟩:=h.ns
 obtain ⟨c1,c2,c3,c4,c5,c6,c7,c8,c9⟩:=h.cells
 obtain ⟨xv,hsv,_⟩:=hv
 refine aH (L:=[ent 321 (tP dU fun n=>.int .i64 (dV n))]) (elist_cons asks_ok.ent aG) (fun r=>(bif Nat.beq r 1 then [12] else [],[])) (by kernel_rfl) Tryz.func303 Tryz.ntmps303 Tryz.results303 rfl rfl (aA h.und.und (aA hux.und aF)) aL ?_
 have hfr:kJ ns.els (.agg [.int .i64 n,e,v])=decide (((xv.length:Nat):Int)<dV (dQ xn n)):=by
  rw [hn.els];simp only [kJ,AV.fld,AV.num,List.getD_cons_zero,List.getD_cons_succ,hsv.els]
 rw [hfr]
 rw [hn.els]at hin
 have hb:0<=n/\n<=(xn.length:Int)-1:=by simpa [inR,AV.fld,AV.num] using hin
 have hlt:n.toNat<xn.length:=by omega
 have hg:=List.getElem?_eq_getElem hlt
 have hat:dQ xn n=xn[n.toNat]:=by simp [dQ,List.getD_eq_getElem?_getD,hg]
 have hD:=hnx _ (List.getElem_mem hlt)
 rw [hat]
 generalize xn[n.toNat]=y at *
 have hix:=fun {q d}=>jV hb.1 hg (tk_node.len hD) (q:=q) (d:=d)
 have hpf:=fun {d}=>tk_node.pf hD (d:=d)
 have ha:tP dU (fun n=>.int .i64 (dV n)) [y]=_:=cT hD
 simp +contextual +decide (maxSteps:=1000000) only [↓ wP,wQ,tf,Nat.reduceAdd,wS,reduceCtorEq,hn.idx,hsv.len,hsv.stab,c1,c2,c3,c4,c5,c6,c7,c8,c9,ce,cv,hix,hpf,ha]
abbrev EX (ns fs os r:AV):List AV->Option AV:=xB (fun a b=>(BP a/\b=HE r)∨(TSl (TFn ns) a/\b=aAr r)) fun a b=>.bool (@ite _ (b=HE r) (Classical.propDecidable _) (a.els.all (OW ns.els fs.els.length os.els.length)) (a.els.all (kJ ns.els)))
theorem SE {r:AV}:aAr r≠HE r:=by
 intro h;injection h with h1;injection h1 with h1;revert h1;decide
theorem aAt (h:RW ns fs mm cs os ts us is uu):Abs.Ok Tryz.prog 301 (EX ns fs os (rn ns fs mm cs os ts us is uu)):=
 ok2 fun a b hab=>by
  rcases hab with ⟨ha,e⟩ | ⟨ha,e⟩
  ·subst e;rw [if_pos rfl];exact aBh (fun _ h=>h) _ (oG h.und) (fun x hx=>aAs h x hx) ha
  ·subst e;rw [if_neg SE];exact aBh (fun _ h=>h.1) _ (oG h.und) (fun x hx=>aGb h x hx) ha
def eR (ns:List AV) (nf no:Int) (l:List AV) (last:Int):Bool:=nL ns nf no l&&(l.take (max 0 ((l.length:Int)-last)).toNat).all (kJ ns)
theorem vP {ns:List AV} {nf no:Int} {x:AV} (h:OW ns nf no x=true):inR (x.fld 0).num 0 ((ns.length:Int)-1)=true:=by
 simp only [OW,Bool.and_eq_true]at h;exact h.1.1
set_option maxHeartbeats 1000000 in
theorem VG (h:RW ns fs mm cs os ts us is uu) (a:AV) (ha:BP a) (last:Int) (h0:0<=last) (h1:last<=1):Abs.Returns Tryz.prog 243 [rn ns fs mm cs os ts us is uu,a,.int .i64 last] (.bool (eR ns.els fs.els.length os.els.length a.els last)):=by
 have hua:=(gW a ha).1
 have a1:EX ns fs os (rn ns fs mm cs os ts us is uu) [a,HE (rn ns fs mm cs os ts us is uu)]=some (.bool (a.els.all (OW ns.els fs.els.length os.els.length))):=by rw [EX,sg2_eq (.inl ⟨ha,rfl⟩),if_pos rfl]
 obtain ⟨xs,hs,hx⟩:=ha
 have hl:=hs.2
 refine aH (L:=[ent 301 (EX ns fs os (rn ns fs mm cs os ts us is uu))]) (elist_cons (aAt h).ent aG) aM (by kernel_rfl) Tryz.func243 Tryz.ntmps243 Tryz.results243 rfl rfl (aA h.und.und (aA hua.und (aA aS aF))) aL ?_
 rw [hs.els]at a1 ⊢
 by_cases k1:((xs.length:Nat):Int)<=40
 ·have k1':xs.length<=40:=by omega
  cases k2:xs.all (OW ns.els fs.els.length os.els.length) with
  | false=>simp +contextual +decide (maxSteps:=1000000) only [↓ wP,wQ,tf,Nat.reduceAdd,wS,reduceCtorEq,hs.len,hs.stab,k1,a1,k2];simp [eR,nL,k2]
  | true=>
    have w1:IntKind.i64.wrap (((xs.length:Nat):Int)-last)=((xs.length:Nat):Int)-last:=IntWalk.i64_in _ (by omega)
    obtain ⟨b,hb,hsl⟩:=hs.upto (k:=3) (fun x hm=>tk_fr.len (hx x hm)) (n:=max 0 (((xs.length:Nat):Int)-last)) (by omega) (by omega)
    have hbt:TSl (TFn ns) b:=⟨_,hb,fun x hm=>⟨hx x (List.mem_of_mem_take hm),vP (List.all_eq_true.1 k2 x (List.mem_of_mem_take hm))⟩⟩
    have a2:EX ns fs os (rn ns fs mm cs os ts us is uu) [b,aAr (rn ns fs mm cs os ts us is uu)]=some (.bool (b.els.all (kJ ns.els))):=by rw [EX,sg2_eq (.inr ⟨hbt,rfl⟩),if_neg SE]
    rw [hb.els]at a2
    have hm:(if ((xs.length:Nat):Int)-last > 0 then ((xs.length:Nat):Int)-last else 0)=max 0 (((xs.length:Nat):Int)-last):=by split<;>omega
    simp +contextual +decide (maxSteps:=1000000) only [↓ wP,wQ,tf,Nat.reduceAdd,wS,reduceCtorEq,hs.len,hs.stab,k1,a1,k2,w1,aBo,hm,hsl,a2]
    simp [eR,nL,k1',k2]
 ·simp +contextual +decide (maxSteps:=1000000) only [↓ wP,wQ,tf,Nat.reduceAdd,wS,reduceCtorEq,hs.len,hs.stab,k1]
  have:¬ xs.length<=40:=by omega
  simp [eR,nL,this]
end
section
variable {ns fs mm cs os ts us is uu:AV}
def kZ (ns:List AV) (nf no:Int) (n:Int) (vs fs:List AV):Bool:=
 if n=0 then !(decide (1<(vs.length:Int))||(decide ((fs.length:Int)=0)&&decide ((vs.length:Int)=0)))&&eR ns nf no fs (1-(vs.length:Int))
 else if n=1 then decide ((vs.length:Int)=1)&&decide ((fs.length:Int)=0)
 else if n=2 then decide ((vs.length:Int)=0)&&decide ((fs.length:Int)=0) else if n=3 then decide ((vs.length:Int)=0)&&decide ((fs.length:Int)=0)
 else if n=4 then decide ((vs.length:Int)=0)&&decide ((fs.length:Int)=0) else false
def kH (ns cs:List AV) (nf no:Int) (k n:Int) (vs fs:List AV):Bool:=
 vs.all (jG nf no)&&(
 if k=1 then decide ((fs.length:Int)=0)&&inR n 0 ((cs.length:Int)-1)&&decide ((vs.length:Int)=((cs.getD n.toNat .top).fld 1).num)
 else if k=2 then decide ((fs.length:Int)=0)&&inR n 0 ((ns.length:Int)-1)&&decide (((dQ ns n).fld 0).num=5)&&decide ((vs.length:Int)<=30)
 else if k=3 then decide ((fs.length:Int)=0)&&decide (n=0)&&decide ((vs.length:Int)=1)
 else if k=4 then decide ((fs.length:Int)=0)&&decide (n=0)&&decide ((vs.length:Int)<=4)
 else if k=5 then decide (n=0)&&decide ((vs.length:Int)=0)&&decide (0<(fs.length:Int))&&eR ns nf no fs 0&&decide (((dQ ns ((fs.getD 0 .top).fld 0).num).fld 0).num=26)
 else if k=6 then kZ ns nf no n vs fs else false)
def zT (ns fs os r:AV):List AV->Option AV:=VJ (fun a b c=>a=r/\BP b/\∃ l,c=.int .i64 l/\0<=l/\l<=1) fun _ b c=>.bool (eR ns.els fs.els.length os.els.length b.els c.num)
theorem BN (h:RW ns fs mm cs os ts us is uu):Abs.Ok Tryz.prog 243 (zT ns fs os (rn ns fs mm cs os ts us is uu)):=
 ok3 fun a b c ⟨e,hb,l,e',h0,h1⟩=>by subst e;subst e';exact VG h b hb l h0 h1
theorem BO {ns fs os r b:AV} {l:Int} (hb:BP b) (h0:0<=l) (h1:l<=1):zT ns fs os r [r,b,.int .i64 l]=some (.bool (eR ns.els fs.els.length os.els.length b.els l)):=kS ⟨rfl,hb,l,rfl,h0,h1⟩
set_option maxHeartbeats 2000000 in
theorem aGc (h:RW ns fs mm cs os ts us is uu) (k n:Int) (vs gs:AV) (hv:kI vs) (hg:BP gs):
 Abs.Returns Tryz.prog 244 [rn ns fs mm cs os ts us is uu,.agg [.int .i64 k,.int .i64 n,vs,gs]] (.bool (kZ ns.els fs.els.length os.els.length n vs.els gs.els)):=by
 have huo:UnderE 0 (.agg [.int .i64 k,.int .i64 n,vs,gs]):=(tk_ob _ ⟨_,_,_,_,rfl,⟨_,rfl⟩,⟨_,rfl⟩,hv,hg⟩).1
 have cv:=(tu_vals _ hv).2
 have cg:=(gW _ hg).2
 obtain ⟨xv,hsv,_⟩:=hv
 have hf:=fun {l}=>BO (ns:=ns) (fs:=fs) (os:=os) (r:=rn ns fs mm cs os ts us is uu) (l:=l) hg
 obtain ⟨xg,hsg,_⟩:=hg
 have hl:=hsv.2
 rw [hsv.els,hsg.els]
 rw [hsg.els]at hf
 refine aH (L:=[ent 243 (zT ns fs os (rn ns fs mm cs os ts us is uu))]) (elist_cons (BN h).ent aG) aM (by kernel_rfl) Tryz.func244 Tryz.ntmps244 Tryz.results244 rfl rfl (aA h.und.und (aA huo.und aF)) aL ?_
 have hgt:(((xv.length:Nat):Int) > 1)=(1<((xv.length:Nat):Int)):=rfl
 by_cases k0:n=0
 ·subst k0
  by_cases k1:1<((xv.length:Nat):Int)
  ·simp +contextual +decide (maxSteps:=1000000) only [↓ wP,wQ,tf,Nat.reduceAdd,wS,reduceCtorEq,cv,cg,hsv.len,hsv.stab,k1]
   simp +decide only [wT,AV.fld,AV.num,kZ,k1]
  ·have w1:IntKind.i64.wrap (1-((xv.length:Nat):Int))=1-((xv.length:Nat):Int):=IntWalk.i64_in _ (by omega)
   have hf:=hf (l:=1-((xv.length:Nat):Int)) (by omega) (by omega)
   by_cases k2:((xg.length:Nat):Int)=0
   ·by_cases k3:((xv.length:Nat):Int)=0
    ·simp +contextual +decide (maxSteps:=1000000) only [↓ wP,wQ,tf,Nat.reduceAdd,wS,reduceCtorEq,cv,cg,hsv.len,hsv.stab,hsg.len,hsg.stab,k1,k2,k3]
     simp +decide only [wT,AV.fld,AV.num,kZ,k1,k2,k3]
    ·simp +contextual +decide (maxSteps:=1000000) only [↓ wP,wQ,tf,Nat.reduceAdd,wS,reduceCtorEq,cv,cg,hsv.len,hsv.stab,hsg.len,hsg.stab,k1,k2,k3,w1,hf]
     simp +decide only [wT,AV.fld,AV.num,kZ,k1,k2,k3]
   ·simp +contextual +decide (maxSteps:=1000000) only [↓ wP,wQ,tf,Nat.reduceAdd,wS,reduceCtorEq,cv,cg,hsv.len,hsv.stab,hsg.len,hsg.stab,k1,k2,w1,hf]
    simp +decide only [wT,AV.fld,AV.num,kZ,k1,k2]
 by_cases k1:n=1
 ·subst k1
  by_cases k3:((xv.length:Nat):Int)=1
  ·simp +contextual +decide (maxSteps:=1000000) only [↓ wP,wQ,tf,Nat.reduceAdd,wS,reduceCtorEq,cv,cg,hsv.len,hsv.stab,hsg.len,hsg.stab,k3]
   simp +decide only [wT,AV.fld,AV.num,kZ,k3]
  ·simp +contextual +decide (maxSteps:=1000000) only [↓ wP,wQ,tf,Nat.reduceAdd,wS,reduceCtorEq,cv,cg,hsv.len,hsv.stab,hsg.len,hsg.stab,k3]
   simp +decide only [wT,AV.fld,AV.num,kZ,k3]
 by_cases k2:n=2∨n=3∨n=4
 ·rcases k2 with rfl | rfl | rfl
  all_goals
   by_cases k3:((xv.length:Nat):Int)=0
   ·simp +contextual +decide (maxSteps:=1000000) only [↓ wP,wQ,tf,Nat.reduceAdd,wS,reduceCtorEq,cv,cg,hsv.len,hsv.stab,hsg.len,hsg.stab,k3]
    simp +decide only [wT,AV.fld,AV.num,kZ,k3]
   ·simp +contextual +decide (maxSteps:=1000000) only [↓ wP,wQ,tf,Nat.reduceAdd,wS,reduceCtorEq,cv,cg,hsv.len,hsv.stab,hsg.len,hsg.stab,k3]
    simp +decide only [wT,AV.fld,AV.num,kZ,k3]
 ·have e2:n≠2:=by omega
  have e3:n≠3:=by omega
  have e4:n≠4:=by omega
  simp +contextual +decide (maxSteps:=1000000) only [↓ wP,wQ,tf,Nat.reduceAdd,wS,reduceCtorEq,cv,cg,k0,k1,e2,e3,e4]
  simp +decide only [wT,AV.fld,AV.num,kZ,k0,k1,e2,e3,e4]
end
end
end Go.Proofs.YtdipddlhenoglaaGreat
