/-
  The program of meanings: worlds as they are defined.
-/
import Derived.Test.YtdipddlhenoglaaGreatNa
set_option linter.unusedVariables false
set_option linter.unusedSimpArgs false
namespace Go.Proofs.YtdipddlhenoglaaGreat
open Go.Abs Go Go.Abs.TryzF
noncomputable section
set_option maxRecDepth 10000
def gH:List AV->Option AV
 | [.int .i64 n,.int .i64 l,.int .i64 h]=>some (.bool (inR n l h))
 | _=>none
theorem aH {n l h:Int}:gH [.int .i64 n,.int .i64 l,.int .i64 h]=some (.bool (inR n l h)):=rfl
def xX:List AV->Option AV
 | [.int .i64 n]=>some (.bool (pY n))
 | _=>none
theorem tG {n:Int}:xX [.int .i64 n]=some (.bool (pY n)):=rfl
theorem within_ok:Abs.Ok Tryz.prog 187 gH:=by
 intro args v b;unfold gH at b;split at b<;>cases b;rename_i n l h;refine aF (L:=[]) aE aN (by kernel_rfl) Tryz.func187 Tryz.ntmps187 Tryz.results187 rfl rfl (aA aV (aA aV (aA aV aD))) aJ ?_;by_cases a:l<=n
 ·refine wU @a ?_
  simp [inR,a]
 ·refine wU @a ?_
  simp [inR,a]
theorem integer_ok:Abs.Ok Tryz.prog 188 xX:=by
 intro args v a;unfold xX at a;split at a<;>cases a;rename_i n;refine aF (L:=[ent 187 gH]) (elist_cons within_ok.ent aE) aN (by kernel_rfl) Tryz.func188 Tryz.ntmps188 Tryz.results188 rfl rfl (aA aV aD) aJ ?_;refine wU @aH ?_;rfl
theorem bY {n:Nat} (h:n<=9223372036854775807):IntKind.i64.wrap ((n:Int)-1)=(n:Int)-1:=IntWalk.i64_in _ aC
structure RW (ns fs mm cs os ts us is uu:AV):Prop where
 ns:TSl eL ns
 fs:iD fs
 mm:dA mm
 cs:sG cs
 os:TSl AE os
 ts:iD ts
 us:TSl xZ us
 is:iD is
 uu:dA uu
abbrev rn (ns fs mm cs os ts us is uu:AV):AV:=.pf (.agg [ns,fs,mm,cs,os,ts,us,is,uu])
section
variable {ns fs mm cs os ts us is uu:AV}
theorem RW.und (h:RW ns fs mm cs os ts us is uu):UnderE 0 (rn ns fs mm cs os ts us is uu):=kS (kR fun x a=>by
 simp at a
 rcases a with rfl | rfl | rfl | rfl | rfl | rfl | rfl | rfl | rfl
 ·exact (bP _ h.ns).1
 ·exact (aT _ h.fs).1
 ·exact (tu_int _ h.mm).1
 ·exact (cJ _ h.cs).1
 ·exact (tK _ h.os).1
 ·exact (aT _ h.ts).1
 ·exact (oH _ h.us).1
 ·exact (aT _ h.is).1
 ·exact (tu_int _ h.uu).1)
theorem RW.cells (h:RW ns fs mm cs os ts us is uu):ns.isCell=true/\fs.isCell=true/\mm.isCell=true/\cs.isCell=true/\os.isCell=true/\ts.isCell=true/\us.isCell=true/\is.isCell=true/\uu.isCell=true:=
 ⟨(bP _ h.ns).2,(aT _ h.fs).2,(tu_int _ h.mm).2,(cJ _ h.cs).2,(tK _ h.os).2,(aT _ h.ts).2,(oH _ h.us).2,(aT _ h.is).2,(tu_int _ h.uu).2⟩
theorem PI {a no k n:Int}:jM a no (.agg [.int .i64 k,.int .i64 n])=if k=1 then pY n else if k=2 then inR n 0 1 else if k=3 then decide (n=0) else if k=4 then inR n 0 (a-1) else if k=5 then inR n 0 (no-1) else false:=rfl
set_option maxHeartbeats 1000000 in
theorem aGw (h:RW ns fs mm cs os ts us is uu) (x:AV) (o:tJ x):Abs.Returns Tryz.prog 242 [rn ns fs mm cs os ts us is uu,x] (.bool (jM fs.els.length os.els.length x)):=by
 have c:=(tk_val x o).1;obtain ⟨_,_,rfl,⟨k,rfl⟩,⟨n,rfl⟩⟩:=o;obtain ⟨G,a,_⟩:=h.fs;obtain ⟨H,b,_⟩:=h.os;obtain ⟨y,q,A,B,u,C,D,E,F⟩:=h.cells;have v:=bY a.2;have w:=bY b.2;refine aF (L:=[ent 187 gH,ent 188 xX]) (elist_cons within_ok.ent (elist_cons integer_ok.ent aE)) (fun r=>(bif Nat.beq r 9 then [9] else bif Nat.beq r 11 then [9] else [],[])) (by kernel_rfl) Tryz.func242 Tryz.ntmps242 Tryz.results242 rfl rfl (aA h.und.und (aA c.und aD)) aJ ?_;rw [a.els,b.els,PI];by_cases d:k=1
 ·subst d;exact sK @tG
 by_cases e:k=2
 ·subst e;exact sK @aH
 by_cases f:k=3
 ·subst f;exact XW
 by_cases l:k=4
 ·subst l;exact PL @aH a.lX a.sX @v @q
 by_cases m:k=5
 ·subst m;exact PL @aH b.lX b.sX @w @u
 exact PL @d @e @f @l @m
end
theorem ET (k:Int):k=6∨k=9∨k=10∨k=11∨k=12∨k=13∨k=18∨k=22∨k=14∨k=7∨k=8∨k=15∨k=16∨k=17∨k=19∨k=20∨k=23∨k=24∨k=26∨
 (k≠6/\k≠9/\k≠10/\k≠11/\k≠12/\k≠13/\k≠18/\k≠22/\k≠14/\k≠7/\k≠8/\k≠15/\k≠16/\k≠17/\k≠19/\k≠20/\k≠23/\k≠24/\k≠26):=by omega
set_option maxHeartbeats 4000000 in
theorem asks_ok:Abs.Ok Tryz.prog 321 (vJ eL fun n=>.int .i64 (eX n)):=AH fun x hx=>by
 have hux:=(tk_node x hx).1;obtain ⟨_,_,ki,pa,rfl,⟨k,rfl⟩,⟨n,rfl⟩,hk,hp⟩:=hx;have ck:=(aT _ hk).2;have cp:=(eG _ hp).2;obtain ⟨xs,hks,_⟩:=hk;refine aF (L:=[]) aE aN (by kernel_rfl) Tryz.func321 Tryz.ntmps321 Tryz.results321 rfl rfl (aA hux.und aD) aV ?_
 rcases ET k with rfl | rfl | rfl | rfl | rfl | rfl | rfl | rfl | rfl | rfl | rfl | rfl | rfl | rfl | rfl | rfl | rfl | rfl | rfl | h
 case inr.inr.inr.inr.inr.inr.inr.inr.inl=>refine GU @ck @cp hks.lX ?_;simp [eX,AV.fld,AV.num,hks.els]
 case inr.inr.inr.inr.inr.inr.inr.inr.inr.inr.inr.inr.inr.inr.inr.inr.inr.inr.inr=>refine GU @ck @cp @h ?_;simp [eX,AV.fld,AV.num,h]
 all_goals refine JA @ck @cp ?_;rfl
abbrev uS (c:AV) (p:AV->Bool):List AV->Option AV:=wX (fun a b=>lP a/\b=c) fun a _=>.bool (a.els.all p)
section
variable {ns fs mm cs os ts us is uu:AV}
abbrev qZ (r:AV):AV:=.func (.func 242) [r] []
abbrev LV (r:AV):AV:=.func (.func 302) [r] []
abbrev aGx (r:AV):AV:=.func (.func 303) [r] []
theorem pW {f:FuncId} {r:AV} (h:UnderE 0 r):UnderE 0 (.func (.func f) [r] []):=jD (by intro x a;simp at a;subst a;exact h) (fun _ h=>nomatch h)
theorem XU (h:RW ns fs mm cs os ts us is uu):Abs.Ok Tryz.prog 241 (uS (qZ (rn ns fs mm cs os ts us is uu)) (jM fs.els.length os.els.length)):=
 ok2 fun a b ⟨c,e⟩=>by subst e;exact aMv (fun _ h=>h) _ (pW h.und) (fun x d=>aGw h x d) c
set_option maxHeartbeats 1000000 in
theorem aGy (h:RW ns fs mm cs os ts us is uu) (x:AV) (P:TFr x):Abs.Returns Tryz.prog 302 [rn ns fs mm cs os ts us is uu,x] (.bool (UR ns.els fs.els.length os.els.length x)):=by
 have I:=(tk_fr x P).1;obtain ⟨_,e,v,rfl,⟨n,rfl⟩,F,J⟩:=P;have o:=(tu_vals _ F).2;have u:=(tu_vals _ J).2;obtain ⟨l,c,H⟩:=h.ns;obtain ⟨m,Q,R,S,T,U,V,X,Y⟩:=h.cells;have A:=bY c.2;have a1:uS (qZ (rn ns fs mm cs os ts us is uu)) (jM fs.els.length os.els.length) [e,qZ (rn ns fs mm cs os ts us is uu)]=_:=sg2_eq ⟨F,rfl⟩;have a2:uS (qZ (rn ns fs mm cs os ts us is uu)) (jM fs.els.length os.els.length) [v,qZ (rn ns fs mm cs os ts us is uu)]=_:=sg2_eq ⟨J,rfl⟩;obtain ⟨B,a,_⟩:=F;obtain ⟨M,b,_⟩:=J;refine aF (L:=[ent 187 gH,ent 321 (vJ eL fun n=>.int .i64 (eX n)),ent 241 (uS (qZ (rn ns fs mm cs os ts us is uu)) (jM fs.els.length os.els.length))]) (elist_cons within_ok.ent (elist_cons asks_ok.ent (elist_cons (XU h).ent aE))) (fun r=>(bif Nat.beq r 1 then [9,29,37,44] else [],[])) (by kernel_rfl) Tryz.func302 Tryz.ntmps302 Tryz.results302 rfl rfl (aA h.und.und (aA I.und aD)) aJ ?_
 have G:UR ns.els fs.els.length os.els.length (.agg [.int .i64 n,e,v])=(inR n 0 ((l.length:Int)-1)&&(decide (((B.length:Nat):Int)<=30)&&B.all (jM fs.els.length os.els.length))&&(decide (((M.length:Nat):Int)<=eX (dZ l n))&&M.all (jM fs.els.length os.els.length))):=by
  rw [c.els];simp only [UR,eW,AV.fld,AV.num,List.getD_cons_zero,List.getD_cons_succ,a.els,b.els]
 rw [G];rw [a.els]at a1;rw [b.els]at a2
 cases k1:inR n 0 ((l.length:Int)-1) with
 | false=>exact az8 @aH c.lX c.sX @A @m @o @u @k1
 | true=>
   have N:=k1;simp only [inR,Bool.and_eq_true,decide_eq_true_eq]at N
   have w:n.toNat<l.length:=by omega
   have O:=List.getElem?_eq_getElem w
   have E:dZ l n=l[n.toNat]:=by simp [dZ,List.getD_eq_getElem?_getD,O]
   have C:=H _ (List.getElem_mem w);rw [E];generalize l[n.toNat]=y at *
   have f:=fun {q d}=>rB N.1 O (tk_node.len C) (q:=q) (d:=d)
   have k:=fun {d}=>tk_node.pf C (d:=d)
   have D:vJ eL (fun n=>.int .i64 (eX n)) [y]=_:=cR C;by_cases k2:((B.length:Nat):Int)<=30
   ·by_cases k3:((M.length:Nat):Int)<=eX y
    ·cases k4:B.all (jM fs.els.length os.els.length) with
     | false=>simp +contextual +decide (maxSteps:=1000000) only [↓ wP,wQ,tf,Nat.reduceAdd,wS,aH,c.len,c.stab,c.idx,a.len,a.stab,b.len,b.stab,A,m,o,u,k1,f,k,D,k2,k3,a1,k4]
     | true=>simp +contextual +decide (maxSteps:=1000000) only [↓ wP,wQ,tf,Nat.reduceAdd,wS,aH,c.len,c.stab,c.idx,a.len,a.stab,b.len,b.stab,A,m,o,u,k1,f,k,D,k2,k3,a1,k4,a2]
    ·exact aQq @aH c.lX c.sX c.iX a.lX a.sX b.lX b.sX @A @m @o @u @k1 @f @k @D @k2 @k3
   ·exact PM @aH c.lX c.sX a.lX a.sX @A @m @o @u @k1 @k2
end
section
variable {ns fs mm cs os ts us is uu:AV}
def TFn (ns x:AV):Prop:=TFr x/\inR (x.fld 0).num 0 ((ns.els.length:Int)-1)=true
set_option maxHeartbeats 1000000 in
theorem aMm (h:RW ns fs mm cs os ts us is uu) (x:AV) (k:TFn ns x):Abs.Returns Tryz.prog 303 [rn ns fs mm cs os ts us is uu,x] (.bool (lQ ns.els x)):=by
 obtain ⟨k,c⟩:=k;have C:=(tk_fr x k).1;obtain ⟨_,e,v,rfl,⟨n,rfl⟩,M,E⟩:=k;have G:=(tu_vals _ M).2;have H:=(tu_vals _ E).2;obtain ⟨b,w,A⟩:=h.ns;obtain ⟨F,O,P,Q,R,S,T,U,V⟩:=h.cells;obtain ⟨N,a,_⟩:=E;refine aF (L:=[ent 321 (vJ eL fun n=>.int .i64 (eX n))]) (elist_cons asks_ok.ent aE) (fun r=>(bif Nat.beq r 1 then [12] else [],[])) (by kernel_rfl) Tryz.func303 Tryz.ntmps303 Tryz.results303 rfl rfl (aA h.und.und (aA C.und aD)) aJ ?_
 have o:lQ ns.els (.agg [.int .i64 n,e,v])=decide (((N.length:Nat):Int)<eX (dZ b n)):=by
  rw [w.els];simp only [lQ,AV.fld,AV.num,List.getD_cons_zero,List.getD_cons_succ,a.els]
 rw [o];rw [w.els]at c
 have J:0<=n/\n<=(b.length:Int)-1:=by simpa [inR,AV.fld,AV.num] using c
 have f:n.toNat<b.length:=by omega
 have D:=List.getElem?_eq_getElem f
 have m:dZ b n=b[n.toNat]:=by simp [dZ,List.getD_eq_getElem?_getD,D]
 have l:=A _ (List.getElem_mem f);rw [m];generalize b[n.toNat]=y at *
 have u:=fun {q d}=>rB J.1 D (tk_node.len l) (q:=q) (d:=d)
 have B:=fun {d}=>tk_node.pf l (d:=d)
 have I:vJ eL (fun n=>.int .i64 (eX n)) [y]=_:=cR l;exact az9 w.iX a.lX a.sX @F @G @H @u @B @I
abbrev IX (ns fs os r:AV):List AV->Option AV:=wX (fun a b=>(EX a/\b=LV r)∨(TSl (TFn ns) a/\b=aGx r)) fun a b=>.bool (@ite _ (b=LV r) (Classical.propDecidable _) (a.els.all (UR ns.els fs.els.length os.els.length)) (a.els.all (lQ ns.els)))
theorem XV {r:AV}:aGx r≠LV r:=by
 intro h;injection h with a;injection a with a;revert a;decide
theorem aGz (h:RW ns fs mm cs os ts us is uu):Abs.Ok Tryz.prog 301 (IX ns fs os (rn ns fs mm cs os ts us is uu)):=
 ok2 fun a b d=>by
  rcases d with ⟨c,e⟩ | ⟨c,e⟩
  ·subst e;rw [if_pos rfl];exact aHp (fun _ h=>h) _ (pW h.und) (fun x f=>aGy h x f) c
  ·subst e;rw [if_neg XV];exact aHp (fun _ h=>h.1) _ (pW h.und) (fun x f=>aMm h x f) c
def fN (ns:List AV) (b no:Int) (l:List AV) (a:Int):Bool:=pC ns b no l&&(l.take (max 0 ((l.length:Int)-a)).toNat).all (lQ ns)
theorem tH {ns:List AV} {a no:Int} {x:AV} (h:UR ns a no x=true):inR (x.fld 0).num 0 ((ns.length:Int)-1)=true:=by
 simp only [UR,Bool.and_eq_true]at h;exact h.1.1
set_option maxHeartbeats 1000000 in
theorem aBj (h:RW ns fs mm cs os ts us is uu) (a:AV) (f:EX a) (c:Int) (w:0<=c) (y:c<=1):Abs.Returns Tryz.prog 243 [rn ns fs mm cs os ts us is uu,a,.int .i64 c] (.bool (fN ns.els fs.els.length os.els.length a.els c)):=by
 have o:=(gZ a f).1
 have a1:IX ns fs os (rn ns fs mm cs os ts us is uu) [a,LV (rn ns fs mm cs os ts us is uu)]=some (.bool (a.els.all (UR ns.els fs.els.length os.els.length))):=by rw [IX,sg2_eq (.inl ⟨f,rfl⟩),if_pos rfl]
 obtain ⟨xs,e,u⟩:=f;refine aF (L:=[ent 301 (IX ns fs os (rn ns fs mm cs os ts us is uu))]) (elist_cons (aGz h).ent aE) aN (by kernel_rfl) Tryz.func243 Tryz.ntmps243 Tryz.results243 rfl rfl (aA h.und.und (aA o.und (aA aV aD))) aJ ?_;rw [e.els]at a1 ⊢;by_cases k1:((xs.length:Nat):Int)<=40
 ·have q:xs.length<=40:=by omega
  cases k2:xs.all (UR ns.els fs.els.length os.els.length) with
  | false=>simp +contextual +decide (maxSteps:=1000000) only [↓ wP,wQ,tf,wS,e.len,k1,a1,k2];simp [fN,pC,k2]
  | true=>
    have v:IntKind.i64.wrap (((xs.length:Nat):Int)-c)=((xs.length:Nat):Int)-c:=IntWalk.i64_in _ aC;obtain ⟨b,r,m⟩:=e.upto (k:=3) (fun x d=>tk_fr.len (u x d)) (n:=max 0 (((xs.length:Nat):Int)-c)) aC aC
    have l:TSl (TFn ns) b:=⟨_,r,fun x d=>⟨u x (List.mem_of_mem_take d),tH (List.all_eq_true.1 k2 x (List.mem_of_mem_take d))⟩⟩
    have a2:IX ns fs os (rn ns fs mm cs os ts us is uu) [b,aGx (rn ns fs mm cs os ts us is uu)]=some (.bool (b.els.all (lQ ns.els))):=by rw [IX,sg2_eq (.inr ⟨l,rfl⟩),if_neg XV]
    rw [r.els]at a2
    have d:(if ((xs.length:Nat):Int)-c > 0 then ((xs.length:Nat):Int)-c else 0)=max 0 (((xs.length:Nat):Int)-c):=by split<;>omega
    simp +contextual +decide (maxSteps:=1000000) only [↓ wP,wQ,tf,wS,e.len,k1,a1,k2,v,aHx,d,m,a2];simp [fN,pC,q,k2]
 ·refine JA e.lX @k1 ?_
  have:¬ xs.length<=40:=by omega
  simp [fN,pC,this]
end
section
variable {ns fs mm cs os ts us is uu:AV}
def mI (ns:List AV) (a no:Int) (n:Int) (vs fs:List AV):Bool:=
 if n=0 then !(decide (1<(vs.length:Int))||(decide ((fs.length:Int)=0)&&decide ((vs.length:Int)=0)))&&fN ns a no fs (1-(vs.length:Int))
 else if n=1 then decide ((vs.length:Int)=1)&&decide ((fs.length:Int)=0)
 else if n=2 then decide ((vs.length:Int)=0)&&decide ((fs.length:Int)=0) else if n=3 then decide ((vs.length:Int)=0)&&decide ((fs.length:Int)=0)
 else if n=4 then decide ((vs.length:Int)=0)&&decide ((fs.length:Int)=0) else false
def kM (ns cs:List AV) (a no:Int) (k n:Int) (vs fs:List AV):Bool:=
 vs.all (jM a no)&&(
 if k=1 then decide ((fs.length:Int)=0)&&inR n 0 ((cs.length:Int)-1)&&decide ((vs.length:Int)=((cs.getD n.toNat .top).fld 1).num)
 else if k=2 then decide ((fs.length:Int)=0)&&inR n 0 ((ns.length:Int)-1)&&decide (((dZ ns n).fld 0).num=5)&&decide ((vs.length:Int)<=30)
 else if k=3 then decide ((fs.length:Int)=0)&&decide (n=0)&&decide ((vs.length:Int)=1)
 else if k=4 then decide ((fs.length:Int)=0)&&decide (n=0)&&decide ((vs.length:Int)<=4)
 else if k=5 then decide (n=0)&&decide ((vs.length:Int)=0)&&decide (0<(fs.length:Int))&&fN ns a no fs 0&&decide (((dZ ns ((fs.getD 0 .top).fld 0).num).fld 0).num=26)
 else if k=6 then mI ns a no n vs fs else false)
def CS (ns fs os r:AV):List AV->Option AV:=sg3 (fun a b c=>a=r/\EX b/\∃ l,c=.int .i64 l/\0<=l/\l<=1) fun _ b c=>.bool (fN ns.els fs.els.length os.els.length b.els c.num)
theorem EU (h:RW ns fs mm cs os ts us is uu):Abs.Ok Tryz.prog 243 (CS ns fs os (rn ns fs mm cs os ts us is uu)):=
 ok3 fun a b c ⟨e,k,l,e',d,f⟩=>by subst e;subst e';exact aBj h b k l d f
theorem EV {ns fs os r b:AV} {l:Int} (d:EX b) (a:0<=l) (c:l<=1):CS ns fs os r [r,b,.int .i64 l]=some (.bool (fN ns.els fs.els.length os.els.length b.els l)):=kP ⟨rfl,d,l,rfl,a,c⟩
set_option maxHeartbeats 2000000 in
theorem aMn (h:RW ns fs mm cs os ts us is uu) (k n:Int) (vs m:AV) (u:lP vs) (o:EX m):
 Abs.Returns Tryz.prog 244 [rn ns fs mm cs os ts us is uu,.agg [.int .i64 k,.int .i64 n,vs,m]] (.bool (mI ns.els fs.els.length os.els.length n vs.els m.els)):=by
 have q:UnderE 0 (.agg [.int .i64 k,.int .i64 n,vs,m]):=(tk_ob _ ⟨_,_,_,_,rfl,⟨_,rfl⟩,⟨_,rfl⟩,u,o⟩).1;have d:=(tu_vals _ u).2;have c:=(gZ _ o).2;obtain ⟨e,a,_⟩:=u
 have f:=fun {l}=>EV (ns:=ns) (fs:=fs) (os:=os) (r:=rn ns fs mm cs os ts us is uu) (l:=l) o
 obtain ⟨B,b,_⟩:=o;rw [a.els,b.els];rw [b.els]at f;refine aF (L:=[ent 243 (CS ns fs os (rn ns fs mm cs os ts us is uu))]) (elist_cons (EU h).ent aE) aN (by kernel_rfl) Tryz.func244 Tryz.ntmps244 Tryz.results244 rfl rfl (aA h.und.und (aA q.und aD)) aJ ?_;by_cases k0:n=0
 ·subst k0
  by_cases k1:1<((e.length:Nat):Int)
  ·refine CT @d @c a.lX @k1 ?_
   simp +decide only [wT,mI,k1]
  ·have A:IntKind.i64.wrap (1-((e.length:Nat):Int))=1-((e.length:Nat):Int):=IntWalk.i64_in _ aC
   have f:=f (l:=1-((e.length:Nat):Int)) aC aC;by_cases k2:((B.length:Nat):Int)=0
   ·by_cases k3:((e.length:Nat):Int)=0
    ·refine PJ @d @c a.lX b.lX @k2 @k3 ?_
     simp +decide only [wT,mI,k2,k3]
    ·refine UO @d @c a.lX b.lX @k1 @k2 @k3 @A @f ?_
     simp +decide only [wT,mI,k1,k2,k3]
   ·refine JB @d @c a.lX b.lX @k1 @k2 @A @f ?_
    simp +decide only [wT,mI,k1,k2]
 by_cases k1:n=1
 ·subst k1
  by_cases k3:((e.length:Nat):Int)=1
  ·refine EW @d @c a.lX b.lX @k3 ?_
   simp +decide only [wT,mI,k3]
  ·refine CT @d @c a.lX @k3 ?_
   simp +decide only [wT,mI,k3]
 by_cases k2:n=2∨n=3∨n=4
 ·rcases k2 with rfl | rfl | rfl
  all_goals
   by_cases k3:((e.length:Nat):Int)=0
   ·refine EW @d @c a.lX b.lX @k3 ?_
    simp +decide only [wT,mI,k3]
   ·refine CT @d @c a.lX @k3 ?_
    simp +decide only [wT,mI,k3]
 ·have v:n≠2:=by omega
  have w:n≠3:=by omega
  have y:n≠4:=by omega
  refine UN @d @c @k0 @k1 @v @w @y ?_;simp +decide only [wT,mI,k0,k1,v,w,y]
end
end
end Go.Proofs.YtdipddlhenoglaaGreat
