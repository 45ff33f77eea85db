/-
  The program of meanings: worlds as they are defined.
-/
import Derived.Test.YtpmccfnfikkkbaaGreatNa
set_option linter.unusedVariables false
set_option linter.unusedSimpArgs false
namespace Go.Proofs.YtpmccfnfikkkbaaGreat
open Go.Abs Go Go.Abs.TryzF
noncomputable section
set_option maxRecDepth 10000
def iC:List AV->Option AV
 | [.int .i64 n,.int .i64 l,.int .i64 h]=>some (.bool (inR n l h))
 | _=>none
theorem aH {n l h:Int}:iC [.int .i64 n,.int .i64 l,.int .i64 h]=some (.bool (inR n l h)):=rfl
def yU:List AV->Option AV
 | [.int .i64 n]=>some (.bool (qK n))
 | _=>none
theorem tW {n:Int}:yU [.int .i64 n]=some (.bool (qK n)):=rfl
theorem within_ok:Abs.Ok Tryz.prog 175 iC:=by
 intro args v b;unfold iC at b;split at b<;>cases b;rename_i n l h;refine aF (L:=[]) aE aG (by kernel_rfl) Tryz.func175 Tryz.ntmps175 Tryz.results175 rfl rfl (aA aO (aA aO (aA aO aD))) aI ?_;by_cases a:l<=n
 ·simp +contextual +decide (maxSteps:=1000000) only [↓ wP,wQ,wS,a]
  simp [inR,a]
 ·simp +contextual +decide (maxSteps:=1000000) only [↓ wP,wQ,wS,a]
  simp [inR,a]
theorem integer_ok:Abs.Ok Tryz.prog 241 yU:=by
 intro args v a;unfold yU at a;split at a<;>cases a;rename_i n;refine aF (L:=[ent 175 iC]) (elist_cons within_ok.ent aE) aG (by kernel_rfl) Tryz.func241 Tryz.ntmps241 Tryz.results241 rfl rfl (aA aO aD) aI ?_;simp +contextual +decide (maxSteps:=1000000) only [↓ wP,wQ,wS,aH];rfl
theorem bV {n:Nat} (h:n<=9223372036854775807):IntKind.i64.wrap ((n:Int)-1)=(n:Int)-1:=IntWalk.i64_in _ (by omega)
structure RW (ns fs mm cs os ts us is uu:AV):Prop where
 ns:TSl eY ns
 fs:kP fs
 mm:dO mm
 cs:sA cs
 os:TSl CO os
 ts:kP ts
 us:TSl wG us
 is:kP is
 uu:dO uu
abbrev rn (ns fs mm cs os ts us is uu:AV):AV:=.pf (.agg [ns,fs,mm,cs,os,ts,us,is,uu])
section
variable {ns fs mm cs os ts us is uu:AV}
theorem RW.und (h:RW ns fs mm cs os ts us is uu):UnderE 0 (rn ns fs mm cs os ts us is uu):=kX (dM fun x a=>by
 simp at a
 rcases a with rfl | rfl | rfl | rfl | rfl | rfl | rfl | rfl | rfl
 ·exact (dR _ h.ns).1
 ·exact (aV _ h.fs).1
 ·exact (tu_int _ h.mm).1
 ·exact (dW _ h.cs).1
 ·exact (mI _ h.os).1
 ·exact (aV _ h.ts).1
 ·exact (kK _ h.us).1
 ·exact (aV _ h.is).1
 ·exact (tu_int _ h.uu).1)
theorem RW.cells (h:RW ns fs mm cs os ts us is uu):ns.isCell=true/\fs.isCell=true/\mm.isCell=true/\cs.isCell=true/\os.isCell=true/\ts.isCell=true/\us.isCell=true/\is.isCell=true/\uu.isCell=true:=
 ⟨(dR _ h.ns).2,(aV _ h.fs).2,(tu_int _ h.mm).2,(dW _ h.cs).2,(mI _ h.os).2,(aV _ h.ts).2,(kK _ h.us).2,(aV _ h.is).2,(tu_int _ h.uu).2⟩
theorem QN {a no k n:Int}:pP a no (.agg [.int .i64 k,.int .i64 n])=if k=1 then qK n else if k=2 then inR n 0 1 else if k=3 then decide (n=0) else if k=4 then inR n 0 (a-1) else if k=5 then inR n 0 (no-1) else false:=rfl
set_option maxHeartbeats 1000000 in
theorem aHz (h:RW ns fs mm cs os ts us is uu) (x:AV) (o:yW x):Abs.Returns Tryz.prog 294 [rn ns fs mm cs os ts us is uu,x] (.bool (pP fs.els.length os.els.length x)):=by
 have c:=(tk_val x o).1;obtain ⟨_,_,rfl,⟨k,rfl⟩,⟨n,rfl⟩⟩:=o;obtain ⟨F,a,_⟩:=h.fs;obtain ⟨G,b,_⟩:=h.os;obtain ⟨w,p,y,A,q,B,C,D,E⟩:=h.cells;have u:=bV a.2;have v:=bV b.2;refine aF (L:=[ent 175 iC,ent 241 yU]) (elist_cons within_ok.ent (elist_cons integer_ok.ent aE)) (fun r=>(bif Nat.beq r 9 then [9] else bif Nat.beq r 11 then [9] else [],[])) (by kernel_rfl) Tryz.func294 Tryz.ntmps294 Tryz.results294 rfl rfl (aA h.und.und (aA c.und aD)) aI ?_;rw [a.els,b.els,QN];by_cases d:k=1
 ·subst d;simp +contextual +decide (maxSteps:=1000000) only [↓ wP,wQ,tf,Nat.reduceAdd,wS,tW]
 by_cases e:k=2
 ·subst e;simp +contextual +decide (maxSteps:=1000000) only [↓ wP,wQ,tf,Nat.reduceAdd,wS,aH]
 by_cases f:k=3
 ·subst f;simp +contextual +decide (maxSteps:=1000000) only [↓ wP,wQ,tf,Nat.reduceAdd,wS]
 by_cases l:k=4
 ·subst l;simp +contextual +decide (maxSteps:=1000000) only [↓ wP,wQ,tf,Nat.reduceAdd,wS,aH,a.len,a.stab,u,p]
 by_cases m:k=5
 ·subst m;simp +contextual +decide (maxSteps:=1000000) only [↓ wP,wQ,tf,Nat.reduceAdd,wS,aH,b.len,b.stab,v,q]
 simp +contextual +decide (maxSteps:=1000000) only [↓ wP,wQ,tf,Nat.reduceAdd,wS,d,e,f,l,m]
end
theorem GF (k:Int):k=6∨k=9∨k=10∨k=11∨k=12∨k=13∨k=18∨k=22∨k=14∨k=7∨k=8∨k=15∨k=16∨k=17∨k=19∨k=20∨k=23∨k=24∨k=26∨
 (k≠6/\k≠9/\k≠10/\k≠11/\k≠12/\k≠13/\k≠18/\k≠22/\k≠14/\k≠7/\k≠8/\k≠15/\k≠16/\k≠17/\k≠19/\k≠20/\k≠23/\k≠24/\k≠26):=by omega
set_option maxHeartbeats 4000000 in
theorem asks_ok:Abs.Ok Tryz.prog 304 (vE eY fun n=>.int .i64 (eZ n)):=AH fun x f=>by
 have d:=(tk_node x f).1;obtain ⟨_,_,ki,pa,rfl,⟨k,rfl⟩,⟨n,rfl⟩,e,l⟩:=f;have b:=(aV _ e).2;have c:=(fY _ l).2;obtain ⟨xs,a,_⟩:=e;refine aF (L:=[]) aE aG (by kernel_rfl) Tryz.func304 Tryz.ntmps304 Tryz.results304 rfl rfl (aA d.und aD) aO ?_
 rcases GF k with rfl | rfl | rfl | rfl | rfl | rfl | rfl | rfl | rfl | rfl | rfl | rfl | rfl | rfl | rfl | rfl | rfl | rfl | rfl | h
 case inr.inr.inr.inr.inr.inr.inr.inr.inl=>simp +contextual +decide (maxSteps:=1000000) only [↓ wP,wQ,tf,Nat.reduceAdd,wS,b,c,a.len];simp [eZ,AV.fld,AV.num,a.els]
 case inr.inr.inr.inr.inr.inr.inr.inr.inr.inr.inr.inr.inr.inr.inr.inr.inr.inr.inr=>simp +contextual +decide (maxSteps:=1000000) only [↓ wP,wQ,tf,Nat.reduceAdd,wS,b,c,h];simp [eZ,AV.fld,AV.num,h]
 all_goals simp +contextual +decide (maxSteps:=1000000) only [↓ wP,wQ,tf,Nat.reduceAdd,wS,b,c];rfl
abbrev vC (c:AV) (p:AV->Bool):List AV->Option AV:=wK (fun a b=>jL a/\b=c) fun a _=>.bool (a.els.all p)
section
variable {ns fs mm cs os ts us is uu:AV}
abbrev rT (r:AV):AV:=.func (.func 294) [r] []
abbrev MF (r:AV):AV:=.func (.func 343) [r] []
abbrev aIa (r:AV):AV:=.func (.func 344) [r] []
theorem qJ {f:FuncId} {r:AV} (h:UnderE 0 r):UnderE 0 (.func (.func f) [r] []):=jE (by intro x a;simp at a;subst a;exact h) (fun _ h=>nomatch h)
theorem XW (h:RW ns fs mm cs os ts us is uu):Abs.Ok Tryz.prog 293 (vC (rT (rn ns fs mm cs os ts us is uu)) (pP fs.els.length os.els.length)):=
 ok2 fun a b ⟨c,e⟩=>by subst e;exact aMm (fun _ h=>h) _ (qJ h.und) (fun x d=>aHz h x d) c
set_option maxHeartbeats 1000000 in
theorem aIb (h:RW ns fs mm cs os ts us is uu) (x:AV) (O:TFr x):Abs.Returns Tryz.prog 343 [rn ns fs mm cs os ts us is uu,x] (.bool (frR ns.els fs.els.length os.els.length x)):=by
 have H:=(tk_fr x O).1;obtain ⟨_,e,v,rfl,⟨n,rfl⟩,E,I⟩:=O;have o:=(bI _ E).2;have p:=(bI _ I).2;obtain ⟨l,c,G⟩:=h.ns;obtain ⟨m,P,Q,R,S,T,U,V,X⟩:=h.cells;have w:=bV c.2;have a1:vC (rT (rn ns fs mm cs os ts us is uu)) (pP fs.els.length os.els.length) [e,rT (rn ns fs mm cs os ts us is uu)]=_:=sg2_eq ⟨E,rfl⟩;have a2:vC (rT (rn ns fs mm cs os ts us is uu)) (pP fs.els.length os.els.length) [v,rT (rn ns fs mm cs os ts us is uu)]=_:=sg2_eq ⟨I,rfl⟩;obtain ⟨A,a,_⟩:=E;obtain ⟨J,b,_⟩:=I;refine aF (L:=[ent 175 iC,ent 304 (vE eY fun n=>.int .i64 (eZ n)),ent 293 (vC (rT (rn ns fs mm cs os ts us is uu)) (pP fs.els.length os.els.length))]) (elist_cons within_ok.ent (elist_cons asks_ok.ent (elist_cons (XW h).ent aE))) (fun r=>(bif Nat.beq r 1 then [9,29,37,44] else [],[])) (by kernel_rfl) Tryz.func343 Tryz.ntmps343 Tryz.results343 rfl rfl (aA h.und.und (aA H.und aD)) aI ?_
 have F:frR ns.els fs.els.length os.els.length (.agg [.int .i64 n,e,v])=(inR n 0 ((l.length:Int)-1)&&(decide (((A.length:Nat):Int)<=30)&&A.all (pP fs.els.length os.els.length))&&(decide (((J.length:Nat):Int)<=eZ (eV l n))&&J.all (pP fs.els.length os.els.length))):=by
  rw [c.els];simp only [frR,fL,AV.fld,AV.num,List.getD_cons_zero,List.getD_cons_succ,a.els,b.els]
 rw [F];rw [a.els]at a1;rw [b.els]at a2
 cases k1:inR n 0 ((l.length:Int)-1) with
 | false=>simp +contextual +decide (maxSteps:=1000000) only [↓ wP,wQ,tf,Nat.reduceAdd,wS,aH,c.len,c.stab,w,m,o,p,k1]
 | true=>
   have M:=k1;simp only [inR,Bool.and_eq_true,decide_eq_true_eq]at M
   have u:n.toNat<l.length:=by omega
   have N:=List.getElem?_eq_getElem u
   have D:eV l n=l[n.toNat]:=by simp [eV,List.getD_eq_getElem?_getD,N]
   have B:=G _ (List.getElem_mem u);rw [D];generalize l[n.toNat]=y at *
   have f:=fun {q d}=>ML M.1 N (tk_node.len B) (q:=q) (d:=d)
   have k:=fun {d}=>tk_node.pf B (d:=d)
   have C:vE eY (fun n=>.int .i64 (eZ n)) [y]=_:=cY B;by_cases k2:((A.length:Nat):Int)<=30
   ·by_cases k3:((J.length:Nat):Int)<=eZ y
    ·cases k4:A.all (pP fs.els.length os.els.length) with
     | false=>simp +contextual +decide (maxSteps:=1000000) only [↓ wP,wQ,tf,Nat.reduceAdd,wS,aH,c.len,c.stab,c.idx,a.len,a.stab,b.len,b.stab,w,m,o,p,k1,f,k,C,k2,k3,a1,k4]
     | true=>simp +contextual +decide (maxSteps:=1000000) only [↓ wP,wQ,tf,Nat.reduceAdd,wS,aH,c.len,c.stab,c.idx,a.len,a.stab,b.len,b.stab,w,m,o,p,k1,f,k,C,k2,k3,a1,k4,a2]
    ·simp +contextual +decide (maxSteps:=1000000) only [↓ wP,wQ,tf,Nat.reduceAdd,wS,aH,c.len,c.stab,c.idx,a.len,a.stab,b.len,b.stab,w,m,o,p,k1,f,k,C,k2,k3]
   ·simp +contextual +decide (maxSteps:=1000000) only [↓ wP,wQ,tf,Nat.reduceAdd,wS,aH,c.len,c.stab,a.len,a.stab,w,m,o,p,k1,k2]
end
section
variable {ns fs mm cs os ts us is uu:AV}
def TFn (ns x:AV):Prop:=TFr x/\inR (x.fld 0).num 0 ((ns.els.length:Int)-1)=true
set_option maxHeartbeats 1000000 in
theorem aMg (h:RW ns fs mm cs os ts us is uu) (x:AV) (k:TFn ns x):Abs.Returns Tryz.prog 344 [rn ns fs mm cs os ts us is uu,x] (.bool (lW ns.els x)):=by
 obtain ⟨k,c⟩:=k;have B:=(tk_fr x k).1;obtain ⟨_,e,v,rfl,⟨n,rfl⟩,J,D⟩:=k;have F:=(bI _ J).2;have G:=(bI _ D).2;obtain ⟨b,u,w⟩:=h.ns;obtain ⟨E,N,O,P,Q,R,S,T,U⟩:=h.cells;obtain ⟨M,a,_⟩:=D;refine aF (L:=[ent 304 (vE eY fun n=>.int .i64 (eZ n))]) (elist_cons asks_ok.ent aE) (fun r=>(bif Nat.beq r 1 then [12] else [],[])) (by kernel_rfl) Tryz.func344 Tryz.ntmps344 Tryz.results344 rfl rfl (aA h.und.und (aA B.und aD)) aI ?_
 have o:lW ns.els (.agg [.int .i64 n,e,v])=decide (((M.length:Nat):Int)<eZ (eV b n)):=by
  rw [u.els];simp only [lW,AV.fld,AV.num,List.getD_cons_zero,List.getD_cons_succ,a.els]
 rw [o];rw [u.els]at c
 have I:0<=n/\n<=(b.length:Int)-1:=by simpa [inR,AV.fld,AV.num] using c
 have f:n.toNat<b.length:=by omega
 have C:=List.getElem?_eq_getElem f
 have m:eV b n=b[n.toNat]:=by simp [eV,List.getD_eq_getElem?_getD,C]
 have l:=w _ (List.getElem_mem f);rw [m];generalize b[n.toNat]=y at *
 have p:=fun {q d}=>ML I.1 C (tk_node.len l) (q:=q) (d:=d)
 have A:=fun {d}=>tk_node.pf l (d:=d)
 have H:vE eY (fun n=>.int .i64 (eZ n)) [y]=_:=cY l;simp +contextual +decide (maxSteps:=1000000) only [↓ wP,wQ,tf,Nat.reduceAdd,wS,u.idx,a.len,a.stab,E,F,G,p,A,H]
abbrev IU (ns fs os r:AV):List AV->Option AV:=wK (fun a b=>(BR a/\b=MF r)∨(TSl (TFn ns) a/\b=aIa r)) fun a b=>.bool (@ite _ (b=MF r) (Classical.propDecidable _) (a.els.all (frR ns.els fs.els.length os.els.length)) (a.els.all (lW ns.els)))
theorem XX {r:AV}:aIa r≠MF r:=by
 intro h;injection h with a;injection a with a;revert a;decide
theorem aIc (h:RW ns fs mm cs os ts us is uu):Abs.Ok Tryz.prog 342 (IU ns fs os (rn ns fs mm cs os ts us is uu)):=
 ok2 fun a b d=>by
  rcases d with ⟨c,e⟩ | ⟨c,e⟩
  ·subst e;rw [if_pos rfl];exact aIq (fun _ h=>h) _ (qJ h.und) (fun x f=>aIb h x f) c
  ·subst e;rw [if_neg XX];exact aIq (fun _ h=>h.1) _ (qJ h.und) (fun x f=>aMg h x f) c
def gV (ns:List AV) (b no:Int) (l:List AV) (a:Int):Bool:=qL ns b no l&&(l.take (max 0 ((l.length:Int)-a)).toNat).all (lW ns)
theorem yV {ns:List AV} {a no:Int} {x:AV} (h:frR ns a no x=true):inR (x.fld 0).num 0 ((ns.length:Int)-1)=true:=by
 simp only [frR,Bool.and_eq_true]at h;exact h.1.1
set_option maxHeartbeats 1000000 in
theorem aCh (h:RW ns fs mm cs os ts us is uu) (a:AV) (f:BR a) (c:Int) (v:0<=c) (w:c<=1):Abs.Returns Tryz.prog 295 [rn ns fs mm cs os ts us is uu,a,.int .i64 c] (.bool (gV ns.els fs.els.length os.els.length a.els c)):=by
 have o:=(lE a f).1
 have a1:IU ns fs os (rn ns fs mm cs os ts us is uu) [a,MF (rn ns fs mm cs os ts us is uu)]=some (.bool (a.els.all (frR ns.els fs.els.length os.els.length))):=by rw [IU,sg2_eq (.inl ⟨f,rfl⟩),if_pos rfl]
 obtain ⟨xs,e,r⟩:=f;have y:=e.2;refine aF (L:=[ent 342 (IU ns fs os (rn ns fs mm cs os ts us is uu))]) (elist_cons (aIc h).ent aE) aG (by kernel_rfl) Tryz.func295 Tryz.ntmps295 Tryz.results295 rfl rfl (aA h.und.und (aA o.und (aA aO aD))) aI ?_;rw [e.els]at a1 ⊢;by_cases k1:((xs.length:Nat):Int)<=40
 ·have p:xs.length<=40:=by omega
  cases k2:xs.all (frR ns.els fs.els.length os.els.length) with
  | false=>simp +contextual +decide (maxSteps:=1000000) only [↓ wP,wQ,tf,wS,e.len,k1,a1,k2];simp [gV,qL,k2]
  | true=>
    have u:IntKind.i64.wrap (((xs.length:Nat):Int)-c)=((xs.length:Nat):Int)-c:=IntWalk.i64_in _ (by omega);obtain ⟨b,q,m⟩:=e.upto (k:=3) (fun x d=>tk_fr.len (r x d)) (n:=max 0 (((xs.length:Nat):Int)-c)) (by omega) (by omega)
    have l:TSl (TFn ns) b:=⟨_,q,fun x d=>⟨r x (List.mem_of_mem_take d),yV (List.all_eq_true.1 k2 x (List.mem_of_mem_take d))⟩⟩
    have a2:IU ns fs os (rn ns fs mm cs os ts us is uu) [b,aIa (rn ns fs mm cs os ts us is uu)]=some (.bool (b.els.all (lW ns.els))):=by rw [IU,sg2_eq (.inr ⟨l,rfl⟩),if_neg XX]
    rw [q.els]at a2
    have d:(if ((xs.length:Nat):Int)-c > 0 then ((xs.length:Nat):Int)-c else 0)=max 0 (((xs.length:Nat):Int)-c):=by split<;>omega
    simp +contextual +decide (maxSteps:=1000000) only [↓ wP,wQ,tf,wS,e.len,k1,a1,k2,u,aGm,d,m,a2];simp [gV,qL,p,k2]
 ·simp +contextual +decide (maxSteps:=1000000) only [↓ wP,wQ,tf,wS,e.len,k1]
  have:¬ xs.length<=40:=by omega
  simp [gV,qL,this]
end
section
variable {ns fs mm cs os ts us is uu:AV}
def oE (ns:List AV) (a no:Int) (n:Int) (vs fs:List AV):Bool:=
 if n=0 then !(decide (1<(vs.length:Int))||(decide ((fs.length:Int)=0)&&decide ((vs.length:Int)=0)))&&gV ns a no fs (1-(vs.length:Int))
 else if n=1 then decide ((vs.length:Int)=1)&&decide ((fs.length:Int)=0)
 else if n=2 then decide ((vs.length:Int)=0)&&decide ((fs.length:Int)=0) else if n=3 then decide ((vs.length:Int)=0)&&decide ((fs.length:Int)=0)
 else if n=4 then decide ((vs.length:Int)=0)&&decide ((fs.length:Int)=0) else false
def mH (ns cs:List AV) (a no:Int) (k n:Int) (vs fs:List AV):Bool:=
 vs.all (pP a no)&&(
 if k=1 then decide ((fs.length:Int)=0)&&inR n 0 ((cs.length:Int)-1)&&decide ((vs.length:Int)=((cs.getD n.toNat .top).fld 1).num)
 else if k=2 then decide ((fs.length:Int)=0)&&inR n 0 ((ns.length:Int)-1)&&decide (((eV ns n).fld 0).num=5)&&decide ((vs.length:Int)<=30)
 else if k=3 then decide ((fs.length:Int)=0)&&decide (n=0)&&decide ((vs.length:Int)=1)
 else if k=4 then decide ((fs.length:Int)=0)&&decide (n=0)&&decide ((vs.length:Int)<=4)
 else if k=5 then decide (n=0)&&decide ((vs.length:Int)=0)&&decide (0<(fs.length:Int))&&gV ns a no fs 0&&decide (((eV ns ((fs.getD 0 .top).fld 0).num).fld 0).num=26)
 else if k=6 then oE ns a no n vs fs else false)
def CN (ns fs os r:AV):List AV->Option AV:=sg3 (fun a b c=>a=r/\BR b/\∃ l,c=.int .i64 l/\0<=l/\l<=1) fun _ b c=>.bool (gV ns.els fs.els.length os.els.length b.els c.num)
theorem GG (h:RW ns fs mm cs os ts us is uu):Abs.Ok Tryz.prog 295 (CN ns fs os (rn ns fs mm cs os ts us is uu)):=
 ok3 fun a b c ⟨e,k,l,e',d,f⟩=>by subst e;subst e';exact aCh h b k l d f
theorem GH {ns fs os r b:AV} {l:Int} (d:BR b) (a:0<=l) (c:l<=1):CN ns fs os r [r,b,.int .i64 l]=some (.bool (gV ns.els fs.els.length os.els.length b.els l)):=rV ⟨rfl,d,l,rfl,a,c⟩
set_option maxHeartbeats 2000000 in
theorem aMh (h:RW ns fs mm cs os ts us is uu) (k n:Int) (vs m:AV) (q:jL vs) (o:BR m):
 Abs.Returns Tryz.prog 296 [rn ns fs mm cs os ts us is uu,.agg [.int .i64 k,.int .i64 n,vs,m]] (.bool (oE ns.els fs.els.length os.els.length n vs.els m.els)):=by
 have p:UnderE 0 (.agg [.int .i64 k,.int .i64 n,vs,m]):=(tk_ob _ ⟨_,_,_,_,rfl,⟨_,rfl⟩,⟨_,rfl⟩,q,o⟩).1;have d:=(bI _ q).2;have c:=(lE _ o).2;obtain ⟨e,a,_⟩:=q
 have f:=fun {l}=>GH (ns:=ns) (fs:=fs) (os:=os) (r:=rn ns fs mm cs os ts us is uu) (l:=l) o
 obtain ⟨B,b,_⟩:=o;have C:=a.2;rw [a.els,b.els];rw [b.els]at f;refine aF (L:=[ent 295 (CN ns fs os (rn ns fs mm cs os ts us is uu))]) (elist_cons (GG h).ent aE) aG (by kernel_rfl) Tryz.func296 Tryz.ntmps296 Tryz.results296 rfl rfl (aA h.und.und (aA p.und aD)) aI ?_;have A:(((e.length:Nat):Int) > 1)=(1<((e.length:Nat):Int)):=rfl;by_cases k0:n=0
 ·subst k0
  by_cases k1:1<((e.length:Nat):Int)
  ·simp +contextual +decide (maxSteps:=1000000) only [↓ wP,wQ,tf,Nat.reduceAdd,wS,d,c,a.len,k1]
   simp +decide only [wT,oE,k1]
  ·have y:IntKind.i64.wrap (1-((e.length:Nat):Int))=1-((e.length:Nat):Int):=IntWalk.i64_in _ (by omega)
   have f:=f (l:=1-((e.length:Nat):Int)) (by omega) (by omega);by_cases k2:((B.length:Nat):Int)=0
   ·by_cases k3:((e.length:Nat):Int)=0
    ·simp +contextual +decide (maxSteps:=1000000) only [↓ wP,wQ,tf,Nat.reduceAdd,wS,d,c,a.len,b.len,k2,k3]
     simp +decide only [wT,oE,k2,k3]
    ·simp +contextual +decide (maxSteps:=1000000) only [↓ wP,wQ,tf,Nat.reduceAdd,wS,d,c,a.len,b.len,k1,k2,k3,y,f]
     simp +decide only [wT,oE,k1,k2,k3]
   ·simp +contextual +decide (maxSteps:=1000000) only [↓ wP,wQ,tf,Nat.reduceAdd,wS,d,c,a.len,b.len,k1,k2,y,f]
    simp +decide only [wT,oE,k1,k2]
 by_cases k1:n=1
 ·subst k1
  by_cases k3:((e.length:Nat):Int)=1
  ·simp +contextual +decide (maxSteps:=1000000) only [↓ wP,wQ,tf,Nat.reduceAdd,wS,d,c,a.len,b.len,k3]
   simp +decide only [wT,oE,k3]
  ·simp +contextual +decide (maxSteps:=1000000) only [↓ wP,wQ,tf,Nat.reduceAdd,wS,d,c,a.len,k3]
   simp +decide only [wT,oE,k3]
 by_cases k2:n=2∨n=3∨n=4
 ·rcases k2 with rfl | rfl | rfl
  all_goals
   by_cases k3:((e.length:Nat):Int)=0
   ·simp +contextual +decide (maxSteps:=1000000) only [↓ wP,wQ,tf,Nat.reduceAdd,wS,d,c,a.len,b.len,k3]
    simp +decide only [wT,oE,k3]
   ·simp +contextual +decide (maxSteps:=1000000) only [↓ wP,wQ,tf,Nat.reduceAdd,wS,d,c,a.len,k3]
    simp +decide only [wT,oE,k3]
 ·have u:n≠2:=by omega
  have v:n≠3:=by omega
  have w:n≠4:=by omega
  simp +contextual +decide (maxSteps:=1000000) only [↓ wP,wQ,tf,Nat.reduceAdd,wS,d,c,k0,k1,u,v,w];simp +decide only [wT,oE,k0,k1,u,v,w]
end
end
end Go.Proofs.YtpmccfnfikkkbaaGreat
