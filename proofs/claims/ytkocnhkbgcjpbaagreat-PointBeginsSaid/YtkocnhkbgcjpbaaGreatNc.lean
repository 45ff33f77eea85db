/-
  The program of meanings: worlds as they are defined.
-/
import Derived.Test.YtkocnhkbgcjpbaaGreatNa
set_option linter.unusedVariables false
set_option linter.unusedSimpArgs false
namespace Go.Proofs.YtkocnhkbgcjpbaaGreat
open Go.Abs Go Go.Abs.TryzF
noncomputable section
set_option maxRecDepth 10000
def iE:List AV->Option AV
 | [.int .i64 n,.int .i64 l,.int .i64 h]=>some (.bool (inR n l h))
 | _=>none
theorem aI {n l h:Int}:iE [.int .i64 n,.int .i64 l,.int .i64 h]=some (.bool (inR n l h)):=rfl
def xC:List AV->Option AV
 | [.int .i64 n]=>some (.bool (pI n))
 | _=>none
theorem sP {n:Int}:xC [.int .i64 n]=some (.bool (pI n)):=rfl
theorem within_ok:Abs.Ok Tryz.prog 145 iE:=by
 intro args v hg
 unfold iE at hg
 split at hg<;>cases hg
 rename_i n l h
 refine aF (L:=[]) aE aH (by kernel_rfl) Tryz.func145 Tryz.ntmps145 Tryz.results145 rfl rfl (aA aR (aA aR (aA aR aD))) aG ?_
 by_cases h1:l<=n
 ·simp +contextual +decide (maxSteps:=1000000) only [↓ wP,wQ,wS,h1]
  simp [inR,h1]
 ·simp +contextual +decide (maxSteps:=1000000) only [↓ wP,wQ,wS,h1]
  simp [inR,h1]
theorem integer_ok:Abs.Ok Tryz.prog 146 xC:=by
 intro args v hg
 unfold xC at hg
 split at hg<;>cases hg
 rename_i n
 refine aF (L:=[ent 145 iE]) (elist_cons within_ok.ent aE) aH (by kernel_rfl) Tryz.func146 Tryz.ntmps146 Tryz.results146 rfl rfl (aA aR aD) aG ?_
 simp +contextual +decide (maxSteps:=1000000) only [↓ wP,wQ,wS,aI]
 rfl
theorem bZ {n:Nat} (h:n<=9223372036854775807):IntKind.i64.wrap ((n:Int)-1)=(n:Int)-1:=IntWalk.i64_in _ (by omega)
structure RW (ns fs mm cs os ts us is uu:AV):Prop where
 ns:TSl eM ns
 fs:eC fs
 mm:cP mm
 cs:rE cs
 os:TSl nP os
 ts:eC ts
 us:TSl mY us
 is:eC is
 uu:cP uu
abbrev rn (ns fs mm cs os ts us is uu:AV):AV:=.pf (.agg [ns,fs,mm,cs,os,ts,us,is,uu])
section
variable {ns fs mm cs os ts us is uu:AV}
theorem RW.und (h:RW ns fs mm cs os ts us is uu):UnderE 0 (rn ns fs mm cs os ts us is uu):=bP (gK fun x hx=>by
 simp at hx
 rcases hx with rfl | rfl | rfl | rfl | rfl | rfl | rfl | rfl | rfl
 ·exact (cS _ h.ns).1
 ·exact (aL _ h.fs).1
 ·exact (tu_int _ h.mm).1
 ·exact (cZ _ h.cs).1
 ·exact (fT _ h.os).1
 ·exact (aL _ h.ts).1
 ·exact (bT _ h.us).1
 ·exact (aL _ h.is).1
 ·exact (tu_int _ h.uu).1)
theorem RW.cells (h:RW ns fs mm cs os ts us is uu):ns.isCell=true/\fs.isCell=true/\mm.isCell=true/\cs.isCell=true/\os.isCell=true/\ts.isCell=true/\us.isCell=true/\is.isCell=true/\uu.isCell=true:=
 ⟨(cS _ h.ns).2,(aL _ h.fs).2,(tu_int _ h.mm).2,(cZ _ h.cs).2,(fT _ h.os).2,(aL _ h.ts).2,(bT _ h.us).2,(aL _ h.is).2,(tu_int _ h.uu).2⟩
theorem LX {nf no k n:Int}:oP nf no (.agg [.int .i64 k,.int .i64 n])=if k=1 then pI n else if k=2 then inR n 0 1 else if k=3 then decide (n=0) else if k=4 then inR n 0 (nf-1) else if k=5 then inR n 0 (no-1) else false:=rfl
set_option maxHeartbeats 1000000 in
theorem aCh (h:RW ns fs mm cs os ts us is uu) (x:AV) (hx:yU x):Abs.Returns Tryz.prog 189 [rn ns fs mm cs os ts us is uu,x] (.bool (oP fs.els.length os.els.length x)):=by
 have hux:=(tk_val x hx).1
 obtain ⟨_,_,rfl,⟨k,rfl⟩,⟨n,rfl⟩⟩:=hx
 obtain ⟨xf,hf,_⟩:=h.fs
 obtain ⟨xo,ho,_⟩:=h.os
 obtain ⟨c1,c2,c3,c4,c5,c6,c7,c8,c9⟩:=h.cells
 have w1:=bZ hf.2
 have w2:=bZ ho.2
 refine aF (L:=[ent 145 iE,ent 146 xC]) (elist_cons within_ok.ent (elist_cons integer_ok.ent aE)) (fun r=>(bif Nat.beq r 9 then [9] else bif Nat.beq r 11 then [9] else [],[])) (by kernel_rfl) Tryz.func189 Tryz.ntmps189 Tryz.results189 rfl rfl (aA h.und.und (aA hux.und aD)) aG ?_
 rw [hf.els,ho.els,LX]
 by_cases h1:k=1
 ·subst h1;simp +contextual +decide (maxSteps:=1000000) only [↓ wP,wQ,tf,Nat.reduceAdd,wS,sP]
 by_cases h2:k=2
 ·subst h2;simp +contextual +decide (maxSteps:=1000000) only [↓ wP,wQ,tf,Nat.reduceAdd,wS,aI]
 by_cases h3:k=3
 ·subst h3;simp +contextual +decide (maxSteps:=1000000) only [↓ wP,wQ,tf,Nat.reduceAdd,wS]
 by_cases h4:k=4
 ·subst h4;simp +contextual +decide (maxSteps:=1000000) only [↓ wP,wQ,tf,Nat.reduceAdd,wS,aI,hf.len,hf.stab,w1,c2]
 by_cases h5:k=5
 ·subst h5;simp +contextual +decide (maxSteps:=1000000) only [↓ wP,wQ,tf,Nat.reduceAdd,wS,aI,ho.len,ho.stab,w2,c5]
 simp +contextual +decide (maxSteps:=1000000) only [↓ wP,wQ,tf,Nat.reduceAdd,wS,h1,h2,h3,h4,h5]
end
theorem CX (k:Int):k=6∨k=9∨k=10∨k=11∨k=12∨k=13∨k=18∨k=22∨k=14∨k=7∨k=8∨k=15∨k=16∨k=17∨k=19∨k=20∨k=23∨k=24∨k=26∨
 (k≠6/\k≠9/\k≠10/\k≠11/\k≠12/\k≠13/\k≠18/\k≠22/\k≠14/\k≠7/\k≠8/\k≠15/\k≠16/\k≠17/\k≠19/\k≠20/\k≠23/\k≠24/\k≠26):=by omega
set_option maxHeartbeats 4000000 in
theorem asks_ok:Abs.Ok Tryz.prog 225 (sR eM fun n=>.int .i64 (eO n)):=yJ fun x hx=>by
 have hux:=(tk_node x hx).1
 obtain ⟨_,_,ki,pa,rfl,⟨k,rfl⟩,⟨n,rfl⟩,hk,hp⟩:=hx
 have ck:=(aL _ hk).2
 have cp:=(fU _ hp).2
 obtain ⟨xs,hks,_⟩:=hk
 refine aF (L:=[]) aE aH (by kernel_rfl) Tryz.func225 Tryz.ntmps225 Tryz.results225 rfl rfl (aA hux.und aD) aR ?_
 rcases CX k with rfl | rfl | rfl | rfl | rfl | rfl | rfl | rfl | rfl | rfl | rfl | rfl | rfl | rfl | rfl | rfl | rfl | rfl | rfl | h
 case inr.inr.inr.inr.inr.inr.inr.inr.inl=>simp +contextual +decide (maxSteps:=1000000) only [↓ wP,wQ,tf,Nat.reduceAdd,wS,ck,cp,hks.len];simp [eO,AV.fld,AV.num,hks.els]
 case inr.inr.inr.inr.inr.inr.inr.inr.inr.inr.inr.inr.inr.inr.inr.inr.inr.inr.inr=>simp +contextual +decide (maxSteps:=1000000) only [↓ wP,wQ,tf,Nat.reduceAdd,wS,ck,cp,h];simp [eO,AV.fld,AV.num,h]
 all_goals simp +contextual +decide (maxSteps:=1000000) only [↓ wP,wQ,tf,Nat.reduceAdd,wS,ck,cp];rfl
abbrev tV (fv:AV) (p:AV->Bool):List AV->Option AV:=rO (fun a b=>iM a/\b=fv) fun a _=>.bool (a.els.all p)
section
variable {ns fs mm cs os ts us is uu:AV}
abbrev qG (r:AV):AV:=.func (.func 189) [r] []
abbrev IH (r:AV):AV:=.func (.func 245) [r] []
abbrev aCi (r:AV):AV:=.func (.func 246) [r] []
theorem pH {f:FuncId} {r:AV} (h:UnderE 0 r):UnderE 0 (.func (.func f) [r] []):=cH (by intro x hx;simp at hx;subst hx;exact h) (fun _ h=>nomatch h)
theorem TY (h:RW ns fs mm cs os ts us is uu):Abs.Ok Tryz.prog 188 (tV (qG (rn ns fs mm cs os ts us is uu)) (oP fs.els.length os.els.length)):=
 ok2 fun a b ⟨ha,e⟩=>by subst e;exact aHv (fun _ h=>h) _ (pH h.und) (fun x hx=>aCh h x hx) ha
set_option maxHeartbeats 1000000 in
theorem aCj (h:RW ns fs mm cs os ts us is uu) (x:AV) (hx:UA x):Abs.Returns Tryz.prog 245 [rn ns fs mm cs os ts us is uu,x] (.bool (LY ns.els fs.els.length os.els.length x)):=by
 have hux:=(tk_fr x hx).1
 obtain ⟨_,e,v,rfl,⟨n,rfl⟩,he,hv⟩:=hx
 have ce:=(aP _ he).2
 have cv:=(aP _ hv).2
 obtain ⟨xn,hn,hnx⟩:=h.ns
 obtain ⟨c1,c2,c3,c4,c5,c6,c7,c8,c9⟩:=h.cells
 have w1:=bZ hn.2
 have a1:tV (qG (rn ns fs mm cs os ts us is uu)) (oP fs.els.length os.els.length) [e,qG (rn ns fs mm cs os ts us is uu)]=_:=sg2_eq ⟨he,rfl⟩
 have a2:tV (qG (rn ns fs mm cs os ts us is uu)) (oP fs.els.length os.els.length) [v,qG (rn ns fs mm cs os ts us is uu)]=_:=sg2_eq ⟨hv,rfl⟩
 obtain ⟨xe,hse,_⟩:=he
 obtain ⟨xv,hsv,_⟩:=hv
 refine aF (L:=[ent 145 iE,ent 225 (sR eM fun n=>.int .i64 (eO n)),ent 188 (tV (qG (rn ns fs mm cs os ts us is uu)) (oP fs.els.length os.els.length))]) (elist_cons within_ok.ent (elist_cons asks_ok.ent (elist_cons (TY h).ent aE))) (fun r=>(bif Nat.beq r 1 then [9,29,37,44] else [],[])) (by kernel_rfl) Tryz.func245 Tryz.ntmps245 Tryz.results245 rfl rfl (aA h.und.und (aA hux.und aD)) aG ?_
 have hfr:LY ns.els fs.els.length os.els.length (.agg [.int .i64 n,e,v])=(inR n 0 ((xn.length:Int)-1)&&(decide (((xe.length:Nat):Int)<=30)&&xe.all (oP fs.els.length os.els.length))&&(decide (((xv.length:Nat):Int)<=eO (eI xn n))&&xv.all (oP fs.els.length os.els.length))):=by
  rw [hn.els];simp only [LY,fH,AV.fld,AV.num,List.getD_cons_zero,List.getD_cons_succ,hse.els,hsv.els]
 rw [hfr]
 rw [hse.els]at a1
 rw [hsv.els]at a2
 cases k1:inR n 0 ((xn.length:Int)-1) with
 | false=>simp +contextual +decide (maxSteps:=1000000) only [↓ wP,wQ,tf,Nat.reduceAdd,wS,aI,hn.len,hn.stab,w1,c1,ce,cv,k1]
 | true=>
   have hb:=k1
   simp only [inR,Bool.and_eq_true,decide_eq_true_eq]at hb
   have hlt:n.toNat<xn.length:=by omega
   have hg:=List.getElem?_eq_getElem hlt
   have hat:eI xn n=xn[n.toNat]:=by simp [eI,List.getD_eq_getElem?_getD,hg]
   have hD:=hnx _ (List.getElem_mem hlt)
   rw [hat]
   generalize xn[n.toNat]=y at *
   have hix:=fun {q d}=>IL hb.1 hg (tk_node.len hD) (q:=q) (d:=d)
   have hpf:=fun {d}=>tk_node.pf hD (d:=d)
   have ha:sR eM (fun n=>.int .i64 (eO n)) [y]=_:=bQ hD
   by_cases k2:((xe.length:Nat):Int)<=30
   ·by_cases k3:((xv.length:Nat):Int)<=eO y
    ·cases k4:xe.all (oP fs.els.length os.els.length) with
     | false=>simp +contextual +decide (maxSteps:=1000000) only [↓ wP,wQ,tf,Nat.reduceAdd,wS,aI,hn.len,hn.stab,hn.idx,hse.len,hse.stab,hsv.len,hsv.stab,w1,c1,ce,cv,k1,hix,hpf,ha,k2,k3,a1,k4]
     | true=>simp +contextual +decide (maxSteps:=1000000) only [↓ wP,wQ,tf,Nat.reduceAdd,wS,aI,hn.len,hn.stab,hn.idx,hse.len,hse.stab,hsv.len,hsv.stab,w1,c1,ce,cv,k1,hix,hpf,ha,k2,k3,a1,k4,a2]
    ·simp +contextual +decide (maxSteps:=1000000) only [↓ wP,wQ,tf,Nat.reduceAdd,wS,aI,hn.len,hn.stab,hn.idx,hse.len,hse.stab,hsv.len,hsv.stab,w1,c1,ce,cv,k1,hix,hpf,ha,k2,k3]
   ·simp +contextual +decide (maxSteps:=1000000) only [↓ wP,wQ,tf,Nat.reduceAdd,wS,aI,hn.len,hn.stab,hse.len,hse.stab,w1,c1,ce,cv,k1,k2]
end
section
variable {ns fs mm cs os ts us is uu:AV}
def TFn (ns x:AV):Prop:=UA x/\inR (x.fld 0).num 0 ((ns.els.length:Int)-1)=true
set_option maxHeartbeats 1000000 in
theorem aHp (h:RW ns fs mm cs os ts us is uu) (x:AV) (hx:TFn ns x):Abs.Returns Tryz.prog 246 [rn ns fs mm cs os ts us is uu,x] (.bool (gJ ns.els x)):=by
 obtain ⟨hx,hin⟩:=hx
 have hux:=(tk_fr x hx).1
 obtain ⟨_,e,v,rfl,⟨n,rfl⟩,he,hv⟩:=hx
 have ce:=(aP _ he).2
 have cv:=(aP _ hv).2
 obtain ⟨xn,hn,hnx⟩:=h.ns
 obtain ⟨c1,c2,c3,c4,c5,c6,c7,c8,c9⟩:=h.cells
 obtain ⟨xv,hsv,_⟩:=hv
 refine aF (L:=[ent 225 (sR eM fun n=>.int .i64 (eO n))]) (elist_cons asks_ok.ent aE) (fun r=>(bif Nat.beq r 1 then [12] else [],[])) (by kernel_rfl) Tryz.func246 Tryz.ntmps246 Tryz.results246 rfl rfl (aA h.und.und (aA hux.und aD)) aG ?_
 have hfr:gJ ns.els (.agg [.int .i64 n,e,v])=decide (((xv.length:Nat):Int)<eO (eI xn n)):=by
  rw [hn.els];simp only [gJ,AV.fld,AV.num,List.getD_cons_zero,List.getD_cons_succ,hsv.els]
 rw [hfr]
 rw [hn.els]at hin
 have hb:0<=n/\n<=(xn.length:Int)-1:=by simpa [inR,AV.fld,AV.num] using hin
 have hlt:n.toNat<xn.length:=by omega
 have hg:=List.getElem?_eq_getElem hlt
 have hat:eI xn n=xn[n.toNat]:=by simp [eI,List.getD_eq_getElem?_getD,hg]
 have hD:=hnx _ (List.getElem_mem hlt)
 rw [hat]
 generalize xn[n.toNat]=y at *
 have hix:=fun {q d}=>IL hb.1 hg (tk_node.len hD) (q:=q) (d:=d)
 have hpf:=fun {d}=>tk_node.pf hD (d:=d)
 have ha:sR eM (fun n=>.int .i64 (eO n)) [y]=_:=bQ hD
 simp +contextual +decide (maxSteps:=1000000) only [↓ wP,wQ,tf,Nat.reduceAdd,wS,hn.idx,hsv.len,hsv.stab,c1,ce,cv,hix,hpf,ha]
abbrev FX (ns fs os r:AV):List AV->Option AV:=rO (fun a b=>(xE a/\b=IH r)∨(TSl (TFn ns) a/\b=aCi r)) fun a b=>.bool (@ite _ (b=IH r) (Classical.propDecidable _) (a.els.all (LY ns.els fs.els.length os.els.length)) (a.els.all (gJ ns.els)))
theorem TZ {r:AV}:aCi r≠IH r:=by
 intro h;injection h with h1;injection h1 with h1;revert h1;decide
theorem aCk (h:RW ns fs mm cs os ts us is uu):Abs.Ok Tryz.prog 244 (FX ns fs os (rn ns fs mm cs os ts us is uu)):=
 ok2 fun a b hab=>by
  rcases hab with ⟨ha,e⟩ | ⟨ha,e⟩
  ·subst e;rw [if_pos rfl];exact aCv (fun _ h=>h) _ (pH h.und) (fun x hx=>aCj h x hx) ha
  ·subst e;rw [if_neg TZ];exact aCv (fun _ h=>h.1) _ (pH h.und) (fun x hx=>aHp h x hx) ha
def eB (ns:List AV) (nf no:Int) (l:List AV) (last:Int):Bool:=nQ ns nf no l&&(l.take (max 0 ((l.length:Int)-last)).toNat).all (gJ ns)
theorem xD {ns:List AV} {nf no:Int} {x:AV} (h:LY ns nf no x=true):inR (x.fld 0).num 0 ((ns.length:Int)-1)=true:=by
 simp only [LY,Bool.and_eq_true]at h;exact h.1.1
set_option maxHeartbeats 1000000 in
theorem WX (h:RW ns fs mm cs os ts us is uu) (a:AV) (ha:xE a) (last:Int) (h0:0<=last) (h1:last<=1):Abs.Returns Tryz.prog 190 [rn ns fs mm cs os ts us is uu,a,.int .i64 last] (.bool (eB ns.els fs.els.length os.els.length a.els last)):=by
 have hua:=(fS a ha).1
 have a1:FX ns fs os (rn ns fs mm cs os ts us is uu) [a,IH (rn ns fs mm cs os ts us is uu)]=some (.bool (a.els.all (LY ns.els fs.els.length os.els.length))):=by rw [FX,sg2_eq (.inl ⟨ha,rfl⟩),if_pos rfl]
 obtain ⟨xs,hs,hx⟩:=ha
 have hl:=hs.2
 refine aF (L:=[ent 244 (FX ns fs os (rn ns fs mm cs os ts us is uu))]) (elist_cons (aCk h).ent aE) aH (by kernel_rfl) Tryz.func190 Tryz.ntmps190 Tryz.results190 rfl rfl (aA h.und.und (aA hua.und (aA aR aD))) aG ?_
 rw [hs.els]at a1 ⊢
 by_cases k1:((xs.length:Nat):Int)<=40
 ·have k1':xs.length<=40:=by omega
  cases k2:xs.all (LY ns.els fs.els.length os.els.length) with
  | false=>simp +contextual +decide (maxSteps:=1000000) only [↓ wP,wQ,tf,wS,hs.len,k1,a1,k2];simp [eB,nQ,k2]
  | true=>
    have w1:IntKind.i64.wrap (((xs.length:Nat):Int)-last)=((xs.length:Nat):Int)-last:=IntWalk.i64_in _ (by omega)
    obtain ⟨b,hb,hsl⟩:=hs.upto (k:=3) (fun x hm=>tk_fr.len (hx x hm)) (n:=max 0 (((xs.length:Nat):Int)-last)) (by omega) (by omega)
    have hbt:TSl (TFn ns) b:=⟨_,hb,fun x hm=>⟨hx x (List.mem_of_mem_take hm),xD (List.all_eq_true.1 k2 x (List.mem_of_mem_take hm))⟩⟩
    have a2:FX ns fs os (rn ns fs mm cs os ts us is uu) [b,aCi (rn ns fs mm cs os ts us is uu)]=some (.bool (b.els.all (gJ ns.els))):=by rw [FX,sg2_eq (.inr ⟨hbt,rfl⟩),if_neg TZ]
    rw [hb.els]at a2
    have hm:(if ((xs.length:Nat):Int)-last > 0 then ((xs.length:Nat):Int)-last else 0)=max 0 (((xs.length:Nat):Int)-last):=by split<;>omega
    simp +contextual +decide (maxSteps:=1000000) only [↓ wP,wQ,tf,wS,hs.len,k1,a1,k2,w1,aDa,hm,hsl,a2]
    simp [eB,nQ,k1',k2]
 ·simp +contextual +decide (maxSteps:=1000000) only [↓ wP,wQ,tf,wS,hs.len,k1]
  have:¬ xs.length<=40:=by omega
  simp [eB,nQ,this]
end
section
variable {ns fs mm cs os ts us is uu:AV}
def kP (ns:List AV) (nf no:Int) (n:Int) (vs fs:List AV):Bool:=
 if n=0 then !(decide (1<(vs.length:Int))||(decide ((fs.length:Int)=0)&&decide ((vs.length:Int)=0)))&&eB ns nf no fs (1-(vs.length:Int))
 else if n=1 then decide ((vs.length:Int)=1)&&decide ((fs.length:Int)=0)
 else if n=2 then decide ((vs.length:Int)=0)&&decide ((fs.length:Int)=0) else if n=3 then decide ((vs.length:Int)=0)&&decide ((fs.length:Int)=0)
 else if n=4 then decide ((vs.length:Int)=0)&&decide ((fs.length:Int)=0) else false
def kM (ns cs:List AV) (nf no:Int) (k n:Int) (vs fs:List AV):Bool:=
 vs.all (oP nf no)&&(
 if k=1 then decide ((fs.length:Int)=0)&&inR n 0 ((cs.length:Int)-1)&&decide ((vs.length:Int)=((cs.getD n.toNat .top).fld 1).num)
 else if k=2 then decide ((fs.length:Int)=0)&&inR n 0 ((ns.length:Int)-1)&&decide (((eI ns n).fld 0).num=5)&&decide ((vs.length:Int)<=30)
 else if k=3 then decide ((fs.length:Int)=0)&&decide (n=0)&&decide ((vs.length:Int)=1)
 else if k=4 then decide ((fs.length:Int)=0)&&decide (n=0)&&decide ((vs.length:Int)<=4)
 else if k=5 then decide (n=0)&&decide ((vs.length:Int)=0)&&decide (0<(fs.length:Int))&&eB ns nf no fs 0&&decide (((eI ns ((fs.getD 0 .top).fld 0).num).fld 0).num=26)
 else if k=6 then kP ns nf no n vs fs else false)
def BE (ns fs os r:AV):List AV->Option AV:=sg3 (fun a b c=>a=r/\xE b/\∃ l,c=.int .i64 l/\0<=l/\l<=1) fun _ b c=>.bool (eB ns.els fs.els.length os.els.length b.els c.num)
theorem CY (h:RW ns fs mm cs os ts us is uu):Abs.Ok Tryz.prog 190 (BE ns fs os (rn ns fs mm cs os ts us is uu)):=
 ok3 fun a b c ⟨e,hb,l,e',h0,h1⟩=>by subst e;subst e';exact WX h b hb l h0 h1
theorem CZ {ns fs os r b:AV} {l:Int} (hb:xE b) (h0:0<=l) (h1:l<=1):BE ns fs os r [r,b,.int .i64 l]=some (.bool (eB ns.els fs.els.length os.els.length b.els l)):=oQ ⟨rfl,hb,l,rfl,h0,h1⟩
set_option maxHeartbeats 2000000 in
theorem aHq (h:RW ns fs mm cs os ts us is uu) (k n:Int) (vs gs:AV) (hv:iM vs) (hg:xE gs):
 Abs.Returns Tryz.prog 191 [rn ns fs mm cs os ts us is uu,.agg [.int .i64 k,.int .i64 n,vs,gs]] (.bool (kP ns.els fs.els.length os.els.length n vs.els gs.els)):=by
 have huo:UnderE 0 (.agg [.int .i64 k,.int .i64 n,vs,gs]):=(tk_ob _ ⟨_,_,_,_,rfl,⟨_,rfl⟩,⟨_,rfl⟩,hv,hg⟩).1
 have cv:=(aP _ hv).2
 have cg:=(fS _ hg).2
 obtain ⟨xv,hsv,_⟩:=hv
 have hf:=fun {l}=>CZ (ns:=ns) (fs:=fs) (os:=os) (r:=rn ns fs mm cs os ts us is uu) (l:=l) hg
 obtain ⟨xg,hsg,_⟩:=hg
 have hl:=hsv.2
 rw [hsv.els,hsg.els]
 rw [hsg.els]at hf
 refine aF (L:=[ent 190 (BE ns fs os (rn ns fs mm cs os ts us is uu))]) (elist_cons (CY h).ent aE) aH (by kernel_rfl) Tryz.func191 Tryz.ntmps191 Tryz.results191 rfl rfl (aA h.und.und (aA huo.und aD)) aG ?_
 have hgt:(((xv.length:Nat):Int) > 1)=(1<((xv.length:Nat):Int)):=rfl
 by_cases k0:n=0
 ·subst k0
  by_cases k1:1<((xv.length:Nat):Int)
  ·simp +contextual +decide (maxSteps:=1000000) only [↓ wP,wQ,tf,Nat.reduceAdd,wS,cv,cg,hsv.len,k1]
   simp +decide only [wT,kP,k1]
  ·have w1:IntKind.i64.wrap (1-((xv.length:Nat):Int))=1-((xv.length:Nat):Int):=IntWalk.i64_in _ (by omega)
   have hf:=hf (l:=1-((xv.length:Nat):Int)) (by omega) (by omega)
   by_cases k2:((xg.length:Nat):Int)=0
   ·by_cases k3:((xv.length:Nat):Int)=0
    ·simp +contextual +decide (maxSteps:=1000000) only [↓ wP,wQ,tf,Nat.reduceAdd,wS,cv,cg,hsv.len,hsg.len,k2,k3]
     simp +decide only [wT,kP,k2,k3]
    ·simp +contextual +decide (maxSteps:=1000000) only [↓ wP,wQ,tf,Nat.reduceAdd,wS,cv,cg,hsv.len,hsg.len,k1,k2,k3,w1,hf]
     simp +decide only [wT,kP,k1,k2,k3]
   ·simp +contextual +decide (maxSteps:=1000000) only [↓ wP,wQ,tf,Nat.reduceAdd,wS,cv,cg,hsv.len,hsg.len,k1,k2,w1,hf]
    simp +decide only [wT,kP,k1,k2]
 by_cases k1:n=1
 ·subst k1
  by_cases k3:((xv.length:Nat):Int)=1
  ·simp +contextual +decide (maxSteps:=1000000) only [↓ wP,wQ,tf,Nat.reduceAdd,wS,cv,cg,hsv.len,hsg.len,k3]
   simp +decide only [wT,kP,k3]
  ·simp +contextual +decide (maxSteps:=1000000) only [↓ wP,wQ,tf,Nat.reduceAdd,wS,cv,cg,hsv.len,k3]
   simp +decide only [wT,kP,k3]
 by_cases k2:n=2∨n=3∨n=4
 ·rcases k2 with rfl | rfl | rfl
  all_goals
   by_cases k3:((xv.length:Nat):Int)=0
   ·simp +contextual +decide (maxSteps:=1000000) only [↓ wP,wQ,tf,Nat.reduceAdd,wS,cv,cg,hsv.len,hsg.len,k3]
    simp +decide only [wT,kP,k3]
   ·simp +contextual +decide (maxSteps:=1000000) only [↓ wP,wQ,tf,Nat.reduceAdd,wS,cv,cg,hsv.len,k3]
    simp +decide only [wT,kP,k3]
 ·have e2:n≠2:=by omega
  have e3:n≠3:=by omega
  have e4:n≠4:=by omega
  simp +contextual +decide (maxSteps:=1000000) only [↓ wP,wQ,tf,Nat.reduceAdd,wS,cv,cg,k0,k1,e2,e3,e4]
  simp +decide only [wT,kP,k0,k1,e2,e3,e4]
end
end
end Go.Proofs.YtkocnhkbgcjpbaaGreat
