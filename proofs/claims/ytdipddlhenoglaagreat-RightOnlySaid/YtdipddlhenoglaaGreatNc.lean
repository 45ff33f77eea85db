/-
  The program of meanings: worlds as they are defined.
-/
import Derived.Test.YtdipddlhenoglaaGreatNa
set_option linter.unusedVariables false
set_option linter.unusedSimpArgs false
namespace Go.Proofs.YtdipddlhenoglaaGreat
open Go.Abs Go Go.Abs.TryzF
noncomputable section
set_option maxRecDepth 10000
def gB:List AV->Option AV
 | [.int .i64 n,.int .i64 l,.int .i64 h]=>some (.bool (inR n l h))
 | _=>none
theorem aH {n l h:Int}:gB [.int .i64 n,.int .i64 l,.int .i64 h]=some (.bool (inR n l h)):=rfl
def xY:List AV->Option AV
 | [.int .i64 n]=>some (.bool (pO n))
 | _=>none
theorem tF {n:Int}:xY [.int .i64 n]=some (.bool (pO n)):=rfl
theorem within_ok:Abs.Ok Tryz.prog 187 gB:=by
 intro args v b;unfold gB at b;split at b<;>cases b;rename_i n l h;refine aF (L:=[]) aE aL (by kernel_rfl) Tryz.func187 Tryz.ntmps187 Tryz.results187 rfl rfl (aA aS (aA aS (aA aS aC))) aI ?_;by_cases a:l<=n
 ·refine AE @a ?_
  simp [inR,a]
 ·refine AE @a ?_
  simp [inR,a]
theorem integer_ok:Abs.Ok Tryz.prog 188 xY:=by
 intro args v a;unfold xY at a;split at a<;>cases a;rename_i n;refine aF (L:=[ent 187 gB]) (elist_cons within_ok.ent aE) aL (by kernel_rfl) Tryz.func188 Tryz.ntmps188 Tryz.results188 rfl rfl (aA aS aC) aI ?_;refine AE @aH ?_;rfl
theorem bU {n:Nat} (h:n<=9223372036854775807):IntKind.i64.wrap ((n:Int)-1)=(n:Int)-1:=IntWalk.i64_in _ aD
structure RW (ns fs mm cs os ts us is uu:AV):Prop where
 ns:TSl eH ns
 fs:fZ fs
 mm:cS mm
 cs:rT cs
 os:TSl vO os
 ts:fZ ts
 us:TSl qP us
 is:fZ is
 uu:cS uu
abbrev rn (ns fs mm cs os ts us is uu:AV):AV:=.pf (.agg [ns,fs,mm,cs,os,ts,us,is,uu])
section
variable {ns fs mm cs os ts us is uu:AV}
theorem RW.und (h:RW ns fs mm cs os ts us is uu):UnderE 0 (rn ns fs mm cs os ts us is uu):=kL (iP fun x a=>by
 simp at a
 rcases a with rfl | rfl | rfl | rfl | rfl | rfl | rfl | rfl | rfl
 ·exact (dZ _ h.ns).1
 ·exact (aT _ h.fs).1
 ·exact (tu_int _ h.mm).1
 ·exact (eA _ h.cs).1
 ·exact (lK _ h.os).1
 ·exact (aT _ h.ts).1
 ·exact (dY _ h.us).1
 ·exact (aT _ h.is).1
 ·exact (tu_int _ h.uu).1)
theorem RW.cells (h:RW ns fs mm cs os ts us is uu):ns.isCell=true/\fs.isCell=true/\mm.isCell=true/\cs.isCell=true/\os.isCell=true/\ts.isCell=true/\us.isCell=true/\is.isCell=true/\uu.isCell=true:=
 ⟨(dZ _ h.ns).2,(aT _ h.fs).2,(tu_int _ h.mm).2,(eA _ h.cs).2,(lK _ h.os).2,(aT _ h.ts).2,(dY _ h.us).2,(aT _ h.is).2,(tu_int _ h.uu).2⟩
theorem OP {a no k n:Int}:gM a no (.agg [.int .i64 k,.int .i64 n])=if k=1 then pO n else if k=2 then inR n 0 1 else if k=3 then decide (n=0) else if k=4 then inR n 0 (a-1) else if k=5 then inR n 0 (no-1) else false:=rfl
set_option maxHeartbeats 1000000 in
theorem aGf (h:RW ns fs mm cs os ts us is uu) (x:AV) (o:nP x):Abs.Returns Tryz.prog 242 [rn ns fs mm cs os ts us is uu,x] (.bool (gM fs.els.length os.els.length x)):=by
 have c:=(tk_val x o).1;obtain ⟨_,_,rfl,⟨k,rfl⟩,⟨n,rfl⟩⟩:=o;obtain ⟨F,a,_⟩:=h.fs;obtain ⟨G,b,_⟩:=h.os;obtain ⟨w,p,y,A,q,B,C,D,E⟩:=h.cells;have u:=bU a.2;have v:=bU b.2;refine aF (L:=[ent 187 gB,ent 188 xY]) (elist_cons within_ok.ent (elist_cons integer_ok.ent aE)) (fun r=>(bif Nat.beq r 9 then [9] else bif Nat.beq r 11 then [9] else [],[])) (by kernel_rfl) Tryz.func242 Tryz.ntmps242 Tryz.results242 rfl rfl (aA h.und.und (aA c.und aC)) aI ?_;rw [a.els,b.els,OP];by_cases d:k=1
 ·subst d;exact uQ @tF
 by_cases e:k=2
 ·subst e;exact uQ @aH
 by_cases f:k=3
 ·subst f;exact az0
 by_cases l:k=4
 ·subst l;exact ND @aH a.lX a.sX @u @p
 by_cases m:k=5
 ·subst m;exact ND @aH b.lX b.sX @v @q
 exact ND @d @e @f @l @m
end
theorem EM (k:Int):k=6∨k=9∨k=10∨k=11∨k=12∨k=13∨k=18∨k=22∨k=14∨k=7∨k=8∨k=15∨k=16∨k=17∨k=19∨k=20∨k=23∨k=24∨k=26∨
 (k≠6/\k≠9/\k≠10/\k≠11/\k≠12/\k≠13/\k≠18/\k≠22/\k≠14/\k≠7/\k≠8/\k≠15/\k≠16/\k≠17/\k≠19/\k≠20/\k≠23/\k≠24/\k≠26):=by omega
set_option maxHeartbeats 4000000 in
theorem asks_ok:Abs.Ok Tryz.prog 321 (uS eH fun n=>.int .i64 (eJ n)):=AJ fun x hx=>by
 have hux:=(tk_node x hx).1;obtain ⟨_,_,ki,pa,rfl,⟨k,rfl⟩,⟨n,rfl⟩,hk,hp⟩:=hx;have ck:=(aT _ hk).2;have cp:=(fG _ hp).2;obtain ⟨xs,hks,_⟩:=hk;refine aF (L:=[]) aE aL (by kernel_rfl) Tryz.func321 Tryz.ntmps321 Tryz.results321 rfl rfl (aA hux.und aC) aS ?_
 rcases EM k with rfl | rfl | rfl | rfl | rfl | rfl | rfl | rfl | rfl | rfl | rfl | rfl | rfl | rfl | rfl | rfl | rfl | rfl | rfl | h
 case inr.inr.inr.inr.inr.inr.inr.inr.inl=>refine CL @ck @cp hks.lX ?_;simp [eJ,AV.fld,AV.num,hks.els]
 case inr.inr.inr.inr.inr.inr.inr.inr.inr.inr.inr.inr.inr.inr.inr.inr.inr.inr.inr=>refine CL @ck @cp @h ?_;simp [eJ,AV.fld,AV.num,h]
 all_goals refine NC @ck @cp ?_;rfl
abbrev uP (c:AV) (p:AV->Bool):List AV->Option AV:=sB (fun a b=>cG a/\b=c) fun a _=>.bool (a.els.all p)
section
variable {ns fs mm cs os ts us is uu:AV}
abbrev qO (r:AV):AV:=.func (.func 242) [r] []
abbrev LA (r:AV):AV:=.func (.func 302) [r] []
abbrev aGg (r:AV):AV:=.func (.func 303) [r] []
theorem pN {f:FuncId} {r:AV} (h:UnderE 0 r):UnderE 0 (.func (.func f) [r] []):=jB (by intro x a;simp at a;subst a;exact h) (fun _ h=>nomatch h)
theorem XI (h:RW ns fs mm cs os ts us is uu):Abs.Ok Tryz.prog 241 (uP (qO (rn ns fs mm cs os ts us is uu)) (gM fs.els.length os.els.length)):=
 ok2 fun a b ⟨c,e⟩=>by subst e;exact aMe (fun _ h=>h) _ (pN h.und) (fun x d=>aGf h x d) c
set_option maxHeartbeats 1000000 in
theorem aGh (h:RW ns fs mm cs os ts us is uu) (x:AV) (O:XM x):Abs.Returns Tryz.prog 302 [rn ns fs mm cs os ts us is uu,x] (.bool (NF ns.els fs.els.length os.els.length x)):=by
 have H:=(tk_fr x O).1;obtain ⟨_,e,v,rfl,⟨n,rfl⟩,E,I⟩:=O;have o:=(tu_vals _ E).2;have p:=(tu_vals _ I).2;obtain ⟨l,c,G⟩:=h.ns;obtain ⟨m,P,Q,R,S,T,U,V,X⟩:=h.cells;have w:=bU c.2;have a1:uP (qO (rn ns fs mm cs os ts us is uu)) (gM fs.els.length os.els.length) [e,qO (rn ns fs mm cs os ts us is uu)]=_:=sg2_eq ⟨E,rfl⟩;have a2:uP (qO (rn ns fs mm cs os ts us is uu)) (gM fs.els.length os.els.length) [v,qO (rn ns fs mm cs os ts us is uu)]=_:=sg2_eq ⟨I,rfl⟩;obtain ⟨A,a,_⟩:=E;obtain ⟨J,b,_⟩:=I;refine aF (L:=[ent 187 gB,ent 321 (uS eH fun n=>.int .i64 (eJ n)),ent 241 (uP (qO (rn ns fs mm cs os ts us is uu)) (gM fs.els.length os.els.length))]) (elist_cons within_ok.ent (elist_cons asks_ok.ent (elist_cons (XI h).ent aE))) (fun r=>(bif Nat.beq r 1 then [9,29,37,44] else [],[])) (by kernel_rfl) Tryz.func302 Tryz.ntmps302 Tryz.results302 rfl rfl (aA h.und.und (aA H.und aC)) aI ?_
 have F:NF ns.els fs.els.length os.els.length (.agg [.int .i64 n,e,v])=(inR n 0 ((l.length:Int)-1)&&(decide (((A.length:Nat):Int)<=30)&&A.all (gM fs.els.length os.els.length))&&(decide (((J.length:Nat):Int)<=eJ (eF l n))&&J.all (gM fs.els.length os.els.length))):=by
  rw [c.els];simp only [NF,eI,AV.fld,AV.num,List.getD_cons_zero,List.getD_cons_succ,a.els,b.els]
 rw [F];rw [a.els]at a1;rw [b.els]at a2
 cases k1:inR n 0 ((l.length:Int)-1) with
 | false=>exact az8 @aH c.lX c.sX @w @m @o @p @k1
 | true=>
   have M:=k1;simp only [inR,Bool.and_eq_true,decide_eq_true_eq]at M
   have u:n.toNat<l.length:=by omega
   have N:=List.getElem?_eq_getElem u
   have D:eF l n=l[n.toNat]:=by simp [eF,List.getD_eq_getElem?_getD,N]
   have B:=G _ (List.getElem_mem u);rw [D];generalize l[n.toNat]=y at *
   have f:=fun {q d}=>qQ M.1 N (tk_node.len B) (q:=q) (d:=d)
   have k:=fun {d}=>tk_node.pf B (d:=d)
   have C:uS eH (fun n=>.int .i64 (eJ n)) [y]=_:=cI B;by_cases k2:((A.length:Nat):Int)<=30
   ·by_cases k3:((J.length:Nat):Int)<=eJ y
    ·cases k4:A.all (gM fs.els.length os.els.length) with
     | false=>simp +contextual +decide (maxSteps:=1000000) only [↓ wP,wQ,tf,Nat.reduceAdd,wS,aH,c.len,c.stab,c.idx,a.len,a.stab,b.len,b.stab,w,m,o,p,k1,f,k,C,k2,k3,a1,k4]
     | true=>simp +contextual +decide (maxSteps:=1000000) only [↓ wP,wQ,tf,Nat.reduceAdd,wS,aH,c.len,c.stab,c.idx,a.len,a.stab,b.len,b.stab,w,m,o,p,k1,f,k,C,k2,k3,a1,k4,a2]
    ·exact aGm @aH c.lX c.sX c.iX a.lX a.sX b.lX b.sX @w @m @o @p @k1 @f @k @C @k2 @k3
   ·exact LE @aH c.lX c.sX a.lX a.sX @w @m @o @p @k1 @k2
end
section
variable {ns fs mm cs os ts us is uu:AV}
def TFn (ns x:AV):Prop:=XM x/\inR (x.fld 0).num 0 ((ns.els.length:Int)-1)=true
set_option maxHeartbeats 1000000 in
theorem aLv (h:RW ns fs mm cs os ts us is uu) (x:AV) (k:TFn ns x):Abs.Returns Tryz.prog 303 [rn ns fs mm cs os ts us is uu,x] (.bool (kB ns.els x)):=by
 obtain ⟨k,c⟩:=k;have B:=(tk_fr x k).1;obtain ⟨_,e,v,rfl,⟨n,rfl⟩,J,D⟩:=k;have F:=(tu_vals _ J).2;have G:=(tu_vals _ D).2;obtain ⟨b,u,w⟩:=h.ns;obtain ⟨E,N,O,P,Q,R,S,T,U⟩:=h.cells;obtain ⟨M,a,_⟩:=D;refine aF (L:=[ent 321 (uS eH fun n=>.int .i64 (eJ n))]) (elist_cons asks_ok.ent aE) (fun r=>(bif Nat.beq r 1 then [12] else [],[])) (by kernel_rfl) Tryz.func303 Tryz.ntmps303 Tryz.results303 rfl rfl (aA h.und.und (aA B.und aC)) aI ?_
 have o:kB ns.els (.agg [.int .i64 n,e,v])=decide (((M.length:Nat):Int)<eJ (eF b n)):=by
  rw [u.els];simp only [kB,AV.fld,AV.num,List.getD_cons_zero,List.getD_cons_succ,a.els]
 rw [o];rw [u.els]at c
 have I:0<=n/\n<=(b.length:Int)-1:=by simpa [inR,AV.fld,AV.num] using c
 have f:n.toNat<b.length:=by omega
 have C:=List.getElem?_eq_getElem f
 have m:eF b n=b[n.toNat]:=by simp [eF,List.getD_eq_getElem?_getD,C]
 have l:=w _ (List.getElem_mem f);rw [m];generalize b[n.toNat]=y at *
 have p:=fun {q d}=>qQ I.1 C (tk_node.len l) (q:=q) (d:=d)
 have A:=fun {d}=>tk_node.pf l (d:=d)
 have H:uS eH (fun n=>.int .i64 (eJ n)) [y]=_:=cI l;exact az9 u.iX a.lX a.sX @E @F @G @p @A @H
abbrev IH (ns fs os r:AV):List AV->Option AV:=sB (fun a b=>(BX a/\b=LA r)∨(TSl (TFn ns) a/\b=aGg r)) fun a b=>.bool (@ite _ (b=LA r) (Classical.propDecidable _) (a.els.all (NF ns.els fs.els.length os.els.length)) (a.els.all (kB ns.els)))
theorem XJ {r:AV}:aGg r≠LA r:=by
 intro h;injection h with a;injection a with a;revert a;decide
theorem aGi (h:RW ns fs mm cs os ts us is uu):Abs.Ok Tryz.prog 301 (IH ns fs os (rn ns fs mm cs os ts us is uu)):=
 ok2 fun a b d=>by
  rcases d with ⟨c,e⟩ | ⟨c,e⟩
  ·subst e;rw [if_pos rfl];exact aGz (fun _ h=>h) _ (pN h.und) (fun x f=>aGh h x f) c
  ·subst e;rw [if_neg XJ];exact aGz (fun _ h=>h.1) _ (pN h.und) (fun x f=>aLv h x f) c
def dE (ns:List AV) (b no:Int) (l:List AV) (a:Int):Bool:=nQ ns b no l&&(l.take (max 0 ((l.length:Int)-a)).toNat).all (kB ns)
theorem xZ {ns:List AV} {a no:Int} {x:AV} (h:NF ns a no x=true):inR (x.fld 0).num 0 ((ns.length:Int)-1)=true:=by
 simp only [NF,Bool.and_eq_true]at h;exact h.1.1
set_option maxHeartbeats 1000000 in
theorem aAo (h:RW ns fs mm cs os ts us is uu) (a:AV) (f:BX a) (c:Int) (v:0<=c) (w:c<=1):Abs.Returns Tryz.prog 243 [rn ns fs mm cs os ts us is uu,a,.int .i64 c] (.bool (dE ns.els fs.els.length os.els.length a.els c)):=by
 have o:=(eE a f).1
 have a1:IH ns fs os (rn ns fs mm cs os ts us is uu) [a,LA (rn ns fs mm cs os ts us is uu)]=some (.bool (a.els.all (NF ns.els fs.els.length os.els.length))):=by rw [IH,sg2_eq (.inl ⟨f,rfl⟩),if_pos rfl]
 obtain ⟨xs,e,r⟩:=f;have y:=e.2;refine aF (L:=[ent 301 (IH ns fs os (rn ns fs mm cs os ts us is uu))]) (elist_cons (aGi h).ent aE) aL (by kernel_rfl) Tryz.func243 Tryz.ntmps243 Tryz.results243 rfl rfl (aA h.und.und (aA o.und (aA aS aC))) aI ?_;rw [e.els]at a1 ⊢;by_cases k1:((xs.length:Nat):Int)<=40
 ·have p:xs.length<=40:=by omega
  cases k2:xs.all (NF ns.els fs.els.length os.els.length) with
  | false=>simp +contextual +decide (maxSteps:=1000000) only [↓ wP,wQ,tf,wS,e.len,k1,a1,k2];simp [dE,nQ,k2]
  | true=>
    have u:IntKind.i64.wrap (((xs.length:Nat):Int)-c)=((xs.length:Nat):Int)-c:=IntWalk.i64_in _ aD;obtain ⟨b,q,m⟩:=e.upto (k:=3) (fun x d=>tk_fr.len (r x d)) (n:=max 0 (((xs.length:Nat):Int)-c)) aD aD
    have l:TSl (TFn ns) b:=⟨_,q,fun x d=>⟨r x (List.mem_of_mem_take d),xZ (List.all_eq_true.1 k2 x (List.mem_of_mem_take d))⟩⟩
    have a2:IH ns fs os (rn ns fs mm cs os ts us is uu) [b,aGg (rn ns fs mm cs os ts us is uu)]=some (.bool (b.els.all (kB ns.els))):=by rw [IH,sg2_eq (.inr ⟨l,rfl⟩),if_neg XJ]
    rw [q.els]at a2
    have d:(if ((xs.length:Nat):Int)-c > 0 then ((xs.length:Nat):Int)-c else 0)=max 0 (((xs.length:Nat):Int)-c):=by split<;>omega
    simp +contextual +decide (maxSteps:=1000000) only [↓ wP,wQ,tf,wS,e.len,k1,a1,k2,u,aHf,d,m,a2];simp [dE,nQ,p,k2]
 ·refine NC e.lX @k1 ?_
  have:¬ xs.length<=40:=by omega
  simp [dE,nQ,this]
end
section
variable {ns fs mm cs os ts us is uu:AV}
def lE (ns:List AV) (a no:Int) (n:Int) (vs fs:List AV):Bool:=
 if n=0 then !(decide (1<(vs.length:Int))||(decide ((fs.length:Int)=0)&&decide ((vs.length:Int)=0)))&&dE ns a no fs (1-(vs.length:Int))
 else if n=1 then decide ((vs.length:Int)=1)&&decide ((fs.length:Int)=0)
 else if n=2 then decide ((vs.length:Int)=0)&&decide ((fs.length:Int)=0) else if n=3 then decide ((vs.length:Int)=0)&&decide ((fs.length:Int)=0)
 else if n=4 then decide ((vs.length:Int)=0)&&decide ((fs.length:Int)=0) else false
def jL (ns cs:List AV) (a no:Int) (k n:Int) (vs fs:List AV):Bool:=
 vs.all (gM a no)&&(
 if k=1 then decide ((fs.length:Int)=0)&&inR n 0 ((cs.length:Int)-1)&&decide ((vs.length:Int)=((cs.getD n.toNat .top).fld 1).num)
 else if k=2 then decide ((fs.length:Int)=0)&&inR n 0 ((ns.length:Int)-1)&&decide (((eF ns n).fld 0).num=5)&&decide ((vs.length:Int)<=30)
 else if k=3 then decide ((fs.length:Int)=0)&&decide (n=0)&&decide ((vs.length:Int)=1)
 else if k=4 then decide ((fs.length:Int)=0)&&decide (n=0)&&decide ((vs.length:Int)<=4)
 else if k=5 then decide (n=0)&&decide ((vs.length:Int)=0)&&decide (0<(fs.length:Int))&&dE ns a no fs 0&&decide (((eF ns ((fs.getD 0 .top).fld 0).num).fld 0).num=26)
 else if k=6 then lE ns a no n vs fs else false)
def CK (ns fs os r:AV):List AV->Option AV:=sg3 (fun a b c=>a=r/\BX b/\∃ l,c=.int .i64 l/\0<=l/\l<=1) fun _ b c=>.bool (dE ns.els fs.els.length os.els.length b.els c.num)
theorem EN (h:RW ns fs mm cs os ts us is uu):Abs.Ok Tryz.prog 243 (CK ns fs os (rn ns fs mm cs os ts us is uu)):=
 ok3 fun a b c ⟨e,k,l,e',d,f⟩=>by subst e;subst e';exact aAo h b k l d f
theorem EO {ns fs os r b:AV} {l:Int} (d:BX b) (a:0<=l) (c:l<=1):CK ns fs os r [r,b,.int .i64 l]=some (.bool (dE ns.els fs.els.length os.els.length b.els l)):=kI ⟨rfl,d,l,rfl,a,c⟩
set_option maxHeartbeats 2000000 in
theorem aLw (h:RW ns fs mm cs os ts us is uu) (k n:Int) (vs m:AV) (q:cG vs) (o:BX m):
 Abs.Returns Tryz.prog 244 [rn ns fs mm cs os ts us is uu,.agg [.int .i64 k,.int .i64 n,vs,m]] (.bool (lE ns.els fs.els.length os.els.length n vs.els m.els)):=by
 have p:UnderE 0 (.agg [.int .i64 k,.int .i64 n,vs,m]):=(tk_ob _ ⟨_,_,_,_,rfl,⟨_,rfl⟩,⟨_,rfl⟩,q,o⟩).1;have d:=(tu_vals _ q).2;have c:=(eE _ o).2;obtain ⟨e,a,_⟩:=q
 have f:=fun {l}=>EO (ns:=ns) (fs:=fs) (os:=os) (r:=rn ns fs mm cs os ts us is uu) (l:=l) o
 obtain ⟨B,b,_⟩:=o;have C:=a.2;rw [a.els,b.els];rw [b.els]at f;refine aF (L:=[ent 243 (CK ns fs os (rn ns fs mm cs os ts us is uu))]) (elist_cons (EN h).ent aE) aL (by kernel_rfl) Tryz.func244 Tryz.ntmps244 Tryz.results244 rfl rfl (aA h.und.und (aA p.und aC)) aI ?_;have A:(((e.length:Nat):Int) > 1)=(1<((e.length:Nat):Int)):=rfl;by_cases k0:n=0
 ·subst k0
  by_cases k1:1<((e.length:Nat):Int)
  ·refine IK @d @c a.lX @k1 ?_
   simp +decide only [wT,lE,k1]
  ·have y:IntKind.i64.wrap (1-((e.length:Nat):Int))=1-((e.length:Nat):Int):=IntWalk.i64_in _ aD
   have f:=f (l:=1-((e.length:Nat):Int)) aD aD;by_cases k2:((B.length:Nat):Int)=0
   ·by_cases k3:((e.length:Nat):Int)=0
    ·refine XK @d @c a.lX b.lX @k2 @k3 ?_
     simp +decide only [wT,lE,k2,k3]
    ·refine ap9 @d @c a.lX b.lX @k1 @k2 @k3 @y @f ?_
     simp +decide only [wT,lE,k1,k2,k3]
   ·refine XL @d @c a.lX b.lX @k1 @k2 @y @f ?_
    simp +decide only [wT,lE,k1,k2]
 by_cases k1:n=1
 ·subst k1
  by_cases k3:((e.length:Nat):Int)=1
  ·refine LB @d @c a.lX b.lX @k3 ?_
   simp +decide only [wT,lE,k3]
  ·refine IK @d @c a.lX @k3 ?_
   simp +decide only [wT,lE,k3]
 by_cases k2:n=2∨n=3∨n=4
 ·rcases k2 with rfl | rfl | rfl
  all_goals
   by_cases k3:((e.length:Nat):Int)=0
   ·refine LB @d @c a.lX b.lX @k3 ?_
    simp +decide only [wT,lE,k3]
   ·refine IK @d @c a.lX @k3 ?_
    simp +decide only [wT,lE,k3]
 ·have u:n≠2:=by omega
  have v:n≠3:=by omega
  have w:n≠4:=by omega
  refine ap7 @d @c @k0 @k1 @u @v @w ?_;simp +decide only [wT,lE,k0,k1,u,v,w]
end
end
end Go.Proofs.YtdipddlhenoglaaGreat
