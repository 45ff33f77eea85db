/-
  The reference of meanings: tasks and objects as they are defined.
-/
import Derived.Test.YtdipddlhenoglaaGreatNg
set_option linter.unusedVariables false
set_option linter.unusedSimpArgs false
namespace Go.Proofs.YtdipddlhenoglaaGreat
open Go.Abs Go Go.Abs.TryzF
noncomputable section
set_option maxRecDepth 10000
section
variable {ns fs mm cs os ts us is uu:AV}
theorem aGq {c:List AV} {ns g:AV} {a:List AV} {k no:Int} (d:Sl g a) (f:∀ x∈a,TFr x) (e:Sl ns c) (h:pC c k no a=true):TSl (TFn ns) g:=
 ⟨a,d,fun x b=>⟨f x b,by
  simp only [pC,Bool.and_eq_true]at h
  rw [e.els];exact tH (List.all_eq_true.1 h.2 x b)⟩⟩
def gY (ns:List AV) (a no:Int) (n:Int) (vs fs:List AV):Bool:=
 if n=0 then pC ns a no fs&&eW a no 1 vs&&decide (0<(fs.length:Int)+vs.length)&&(fs.take (min (fs.length:Int) (max 0 ((fs.length:Int)-1+vs.length))).toNat).all (lQ ns)
 else if n=1 then decide ((fs.length:Int)=0)&&decide ((vs.length:Int)=1)&&eW a no 1 vs
 else if n=2 then decide ((fs.length:Int)=0)&&decide ((vs.length:Int)=0) else if n=3 then decide ((fs.length:Int)=0)&&decide ((vs.length:Int)=0)
 else if n=4 then decide ((fs.length:Int)=0)&&decide ((vs.length:Int)=0) else false
abbrev UG (P W:AV) (e:List AV) (d no:Int):List AV->Option AV:=sg3 (fun a b c=>a=P/\b=W/\AE c) fun _ _ c=>.bool (gY e d no (c.fld 1).num (c.fld 2).els (c.fld 3).els)
abbrev LT (ns fs mm cs os ts us is uu:AV):List kG:=[ent 92 (tF (pg ns fs mm cs) (wd os ts us is uu) ns.els fs.els.length os.els.length),ent 94 (lO (pg ns fs mm cs) (wd os ts us is uu) fs.els.length os.els.length),ent 93 (wR (pg ns fs mm cs) ns)]
set_option maxHeartbeats 4000000 in
theorem aGr (h:RW ns fs mm cs os ts us is uu):Abs.Ok Tryz.prog 91 (UG (pg ns fs mm cs) (wd os ts us is uu) ns.els fs.els.length os.els.length):=ok3 fun a b x ⟨ea,eb,Y⟩=>by
 subst ea;subst eb;have R:=(tk_ob x Y).1;obtain ⟨o,q,u,w,y,A,B,C,E⟩:=h.cells;obtain ⟨_,_,v,g,rfl,⟨k,rfl⟩,⟨n,rfl⟩,T,Q⟩:=Y;have G:=(tu_vals _ T).2;have F:=(gZ _ Q).2;have m:lO (pg ns fs mm cs) (wd os ts us is uu) fs.els.length os.els.length [pg ns fs mm cs,wd os ts us is uu,v,.int .i64 1]=some (.bool (eW fs.els.length os.els.length 1 v.els)):=MD ⟨rfl,rfl,T,_,rfl⟩;have l:tF (pg ns fs mm cs) (wd os ts us is uu) ns.els fs.els.length os.els.length [pg ns fs mm cs,wd os ts us is uu,g]=some (.bool (pC ns.els fs.els.length os.els.length g.els)):=kP ⟨rfl,rfl,Q⟩;obtain ⟨e,f,ad⟩:=T;obtain ⟨d,c,U⟩:=Q;obtain ⟨xn,H,ac⟩:=h.ns;have ab:=f.2;have aa:=c.2;refine aF (L:=LT ns fs mm cs os ts us is uu) (elist_cons (EQ h).ent (elist_cons (wO h).ent (elist_cons (PH h.ns h.fs h.mm h.cs).ent aE))) aN (by kernel_rfl) Tryz.func91 Tryz.ntmps91 Tryz.results91 rfl rfl (aA (cL _ h.pg).1.und (aA (pX _ h.wd).1.und (aA R.und aD))) aJ ?_;show Wk _ _ _ _ _ (jR _ _ (fun _ r=>r=.bool (gY ns.els fs.els.length os.els.length n v.els g.els)) _);rw [f.els]at m ⊢;rw [c.els]at l ⊢;by_cases k0:n=0
 ·subst k0
  cases k1:pC ns.els fs.els.length os.els.length d with
  | false=>refine CE @o @q @u @w @y @A @B @C @E @G @F c.lX @l @k1 ?_;simp +decide only [wT,gY,k1]
  | true=>
  cases k2:eW fs.els.length os.els.length 1 e with
  | false=>refine AC @o @q @u @w @y @A @B @C @E @G @F c.lX @l @k1 @m @k2 ?_;simp +decide only [wT,gY,k1,k2]
  | true=>
  have e1:d.length<=40:=by simp only [pC,Bool.and_eq_true,decide_eq_true_eq]at k1;exact k1.1
  have I:e.length<=1:=by simp only [eW,Bool.and_eq_true,decide_eq_true_eq]at k2;omega
  have Z:IntKind.i64.wrap (((d.length:Nat):Int)+((e.length:Nat):Int))=((d.length:Nat):Int)+((e.length:Nat):Int):=IntWalk.i64_in _ aC;have w2:IntKind.i64.wrap (((d.length:Nat):Int)-1)=((d.length:Nat):Int)-1:=IntWalk.i64_in _ aC;have w3:IntKind.i64.wrap (((d.length:Nat):Int)-1+((e.length:Nat):Int))=((d.length:Nat):Int)-1+((e.length:Nat):Int):=IntWalk.i64_in _ aC;by_cases k3:((d.length:Nat):Int)+((e.length:Nat):Int) > 0
  ·have m1:(if ((d.length:Nat):Int)-1+((e.length:Nat):Int) > 0 then ((d.length:Nat):Int)-1+((e.length:Nat):Int) else 0)=((d.length:Nat):Int)-1+((e.length:Nat):Int):=by split<;>omega
   obtain ⟨M,J⟩:∃ M:Nat,(if ((d.length:Nat):Int)-1+((e.length:Nat):Int)<((d.length:Nat):Int) then ((d.length:Nat):Int)-1+((e.length:Nat):Int) else ((d.length:Nat):Int))=(M:Int):=⟨(min (d.length:Int) (max 0 ((d.length:Int)-1+e.length))).toNat,by split<;>omega⟩
   have O:M<=d.length:=by split at J<;>omega
   have N:(min (d.length:Int) (max 0 ((d.length:Int)-1+e.length))).toNat=M:=by split at J<;>omega
   have ho:wR (pg ns fs mm cs) ns [pg ns fs mm cs,g,.int .i64 (M:Nat)]=some (.bool ((d.take M).all (lQ ns.els))):=by
    rw [wR,kP ⟨rfl,aGq c U H (by rw [<-H.els];exact k1),M,rfl,by rw [c.els];exact O⟩,c.els];rfl
   simp +contextual +decide (maxSteps:=1000000) only [↓ wP,wQ,tf,Nat.reduceAdd,wS,o,q,u,w,y,A,B,C,E,G,F,c.len,f.len,l,k1,m,k2,Z,w2,w3,k3,aHx,UV,m1,J,ho];simp +decide only [wT,gY,k1,k2,N,show (0<((d.length:Nat):Int)+((e.length:Nat):Int))=True from eq_true k3]
  ·refine UP @o @q @u @w @y @A @B @C @E @G @F c.lX f.lX @l @k1 @m @k2 @Z @k3 ?_
   simp +decide only [wT,gY,k1,k2,show (0<((d.length:Nat):Int)+((e.length:Nat):Int))=False from eq_false k3]
 by_cases k1:n=1
 ·subst k1
  by_cases k2:((d.length:Nat):Int)=0
  ·by_cases k3:((e.length:Nat):Int)=1
   ·refine AC @o @q @u @w @y @A @B @C @E @G @F c.lX f.lX @k2 @k3 @m ?_;simp +decide only [wT,gY,k2,k3]
   ·refine wV @o @q @u @w @y @A @B @C @E @G @F c.lX f.lX @k2 @k3 ?_;simp +decide only [wT,gY,k2,k3]
  ·refine tI @o @q @u @w @y @A @B @C @E @G @F c.lX @k2 ?_;simp +decide only [wT,gY,k2]
 by_cases k2:n=2∨n=3∨n=4
 ·rcases k2 with rfl | rfl | rfl
  all_goals
   by_cases k3:((d.length:Nat):Int)=0
   ·refine CE @o @q @u @w @y @A @B @C @E @G @F c.lX f.lX @k3 ?_;simp +decide only [wT,gY,k3]
   ·refine tI @o @q @u @w @y @A @B @C @E @G @F c.lX @k3 ?_;simp +decide only [wT,gY,k3]
 ·have I:n≠2:=by omega
  have V:n≠3:=by omega
  have X:n≠4:=by omega
  refine AC @o @q @u @w @y @A @B @C @E @G @F @k0 @k1 @I @V @X ?_;simp +decide only [wT,gY,k0,k1,I,V,X]
end
section
variable {ns fs mm cs os ts us is uu:AV}
def mB (ns cs:List AV) (a no:Int) (k n:Int) (vs fs:List AV):Bool:=
 if k=6 then gY ns a no n vs fs
 else if k=5 then decide (n=0)&&decide ((vs.length:Int)=0)&&decide (0<(fs.length:Int))&&pC ns a no fs&&(fs.take fs.length).all (lQ ns)&&decide (((dZ ns ((fs.getD 0 .top).fld 0).num).fld 0).num=26)
 else if (fs.length:Int)=0 then
  (if k=1 then inR n 0 ((cs.length:Int)-1)&&decide ((vs.length:Int)=((cs.getD n.toNat .top).fld 1).num)&&eW a no 3 vs
  else if k=2 then inR n 0 ((ns.length:Int)-1)&&decide (((dZ ns n).fld 0).num=5)&&eW a no 30 vs
  else if k=3 then decide (n=0)&&decide ((vs.length:Int)=1)&&eW a no 1 vs
  else if k=4 then decide (n=0)&&eW a no 4 vs
  else false)
 else false
abbrev aQo (P W:AV) (f e:List AV) (d no:Int):List AV->Option AV:=sg3 (fun a b c=>a=P/\b=W/\AE c) fun _ _ c=>.bool (mB f e d no (c.fld 0).num (c.fld 1).num (c.fld 2).els (c.fld 3).els)
set_option maxHeartbeats 8000000 in
theorem UH (h:RW ns fs mm cs os ts us is uu):Abs.Ok Tryz.prog 57 (aQo (pg ns fs mm cs) (wd os ts us is uu) ns.els cs.els fs.els.length os.els.length):=ok3 fun a b x ⟨ea,eb,hx⟩=>by
 subst ea;subst eb;have aj:=(tk_ob x hx).1;obtain ⟨A,B,C,E,F,G,H,I,J⟩:=h.cells;obtain ⟨_,_,v,g,rfl,⟨k,rfl⟩,⟨n,rfl⟩,hv,hg⟩:=hx;have ht:UG (pg ns fs mm cs) (wd os ts us is uu) ns.els fs.els.length os.els.length [pg ns fs mm cs,wd os ts us is uu,.agg [.int .i64 k,.int .i64 n,v,g]]=some (.bool (gY ns.els fs.els.length os.els.length n v.els g.els)):=kP ⟨rfl,rfl,_,_,_,_,rfl,⟨_,rfl⟩,⟨_,rfl⟩,hv,hg⟩;have N:=(tu_vals _ hv).2;have M:=(gZ _ hg).2;have R:∀ {m:Int},lO (pg ns fs mm cs) (wd os ts us is uu) fs.els.length os.els.length [pg ns fs mm cs,wd os ts us is uu,v,.int .i64 m]=some (.bool (eW fs.els.length os.els.length m v.els)):=MD ⟨rfl,rfl,hv,_,rfl⟩;have T:tF (pg ns fs mm cs) (wd os ts us is uu) ns.els fs.els.length os.els.length [pg ns fs mm cs,wd os ts us is uu,g]=some (.bool (pC ns.els fs.els.length os.els.length g.els)):=kP ⟨rfl,rfl,hg⟩;obtain ⟨xv,e,ao⟩:=hv;obtain ⟨O,c,ae⟩:=hg;obtain ⟨xn,l,ac⟩:=h.ns;obtain ⟨xc,u,ai⟩:=h.cs;have w1:=bY l.2;have w2:=bY u.2
 refine aF (L:=[ent 55 gH,ent 91 (UG (pg ns fs mm cs) (wd os ts us is uu) ns.els fs.els.length os.els.length),ent 92 (tF (pg ns fs mm cs) (wd os ts us is uu) ns.els fs.els.length os.els.length),ent 94 (lO (pg ns fs mm cs) (wd os ts us is uu) fs.els.length os.els.length),ent 93 (wR (pg ns fs mm cs) ns)])
  (elist_cons rIn6_ok.ent (elist_cons (aGr h).ent (elist_cons (EQ h).ent (elist_cons (wO h).ent (elist_cons (PH h.ns h.fs h.mm h.cs).ent aE))))) (fun r=>(bif Nat.beq r 4 then [20,29] else bif Nat.beq r 9 then [6,25] else [],[])) (by kernel_rfl) Tryz.func57 Tryz.ntmps57 Tryz.results57 rfl rfl (aA (cL _ h.pg).1.und (aA (pX _ h.wd).1.und (aA aj.und aD))) aJ ?_
 show Wk _ _ _ _ _ (jR _ _ (fun _ r=>r=.bool (mB ns.els cs.els fs.els.length os.els.length k n v.els g.els)) _);rw [e.els]at R ht ⊢;rw [c.els]at T ht ⊢;by_cases k6:k=6
 ·subst k6
  refine HA @A @B @C @E @F @G @H @I @J @N @M @ht ?_;simp +decide only [wT,AV.fld,AV.num,mB]
 by_cases k5:k=5
 ·subst k5
  by_cases o:n=0
  ·by_cases w:((xv.length:Nat):Int)=0
   ·by_cases f:((O.length:Nat):Int) > 0
    ·have X:(0<((O.length:Nat):Int))=True:=eq_true f
     cases U:pC ns.els fs.els.length os.els.length O with
     | false=>refine UQ @A @B @C @E @F @G @H @I @J @N @M c.lX c.sX e.lX e.sX @f @o @w @T @U ?_;simp +decide only [wT,AV.fld,AV.num,mB,U]
     | true=>
       have ho:wR (pg ns fs mm cs) ns [pg ns fs mm cs,g,.int .i64 (O.length:Nat)]=some (.bool ((O.take O.length).all (lQ ns.els))):=by
        rw [wR,kP ⟨rfl,aGq c ae l (by rw [<-l.els];exact U),O.length,rfl,by rw [c.els];exact Nat.le_refl _⟩,c.els];rfl
       cases g5:(O.take O.length).all (lQ ns.els) with
       | false=>simp +contextual +decide (maxSteps:=1000000) only [↓ wP,wQ,tf,Nat.reduceAdd,wS,A,B,C,E,F,G,H,I,J,N,M,c.len,c.stab,e.len,e.stab,f,o,w,T,U,ho,g5];simp +decide only [wT,AV.fld,AV.num,mB,U,g5]
       | true=>
         have g0:inR 0 0 ((O.length:Int)-1)=true:=by simp only [inR,Bool.and_eq_true,decide_eq_true_eq];omega
         obtain ⟨y,hD,al,Z,Q,ad,_,_⟩:=nQ tk_fr ae g0;have V:=U;simp only [pC,Bool.and_eq_true]at V;have aa:=tH (List.all_eq_true.1 V.2 y al);obtain ⟨_,_,_,rfl,⟨m,rfl⟩,q1,q2⟩:=hD;have e1:=(tu_vals _ q1).2;have e2:=(tu_vals _ q2).2;rw [l.els]at aa;obtain ⟨z,ah,_,hz,ab,an,_,_⟩:=nQ tk_node ac aa;obtain ⟨_,_,_,_,rfl,⟨op,rfl⟩,⟨m',rfl⟩,q3,q4⟩:=ah;have Y:∀ {q:IntKind} {d:Option AV},wY (some 4) xn (.int q m) d=some (.pf (.agg [.int .i64 op,.int .i64 m',_,_])):=ab;simp +contextual +decide (maxSteps:=1000000) only [↓ wP,wQ,tf,Nat.reduceAdd,wS,A,B,C,E,F,G,H,I,J,N,M,c.len,c.stab,c.idx,e.len,e.stab,f,o,w,T,U,ho,g5,Q,l.idx,Y]
         have af:pC xn fs.els.length os.els.length O=true:=by rw [<-l.els];exact U
         have ag:(O.take O.length).all (lQ xn)=true:=by rw [<-l.els];exact g5
         have ak:O.getD 0 .top=.agg [.int .i64 m,_,_]:=Z;have am:xn.getD m.toNat .top=.agg [.int .i64 op,.int .i64 m',_,_]:=hz;simp +decide only [wT,AV.fld,AV.num,mB,X,w,af,ag,l.els,dZ,ak,am]
    ·have X:(0<((O.length:Nat):Int))=False:=eq_false f
     refine HB @A @B @C @E @F @G @H @I @J @N @M c.lX c.sX e.lX e.sX @f @o @w ?_;simp +decide only [wT,AV.fld,AV.num,mB,X]
   ·refine wV @A @B @C @E @F @G @H @I @J @N @M e.lX e.sX @o @w ?_;simp +decide only [wT,AV.fld,AV.num,mB,w]
  ·refine HA @A @B @C @E @F @G @H @I @J @N @M @o ?_;simp +decide only [wT,AV.fld,AV.num,mB,o]
 by_cases f:((O.length:Nat):Int)=0
 ·by_cases k1:k=1
  ·subst k1
   cases o:inR n 0 ((xc.length:Int)-1) with
   | false=>refine HB @A @B @C @E @F @G @H @I @J @N @M c.lX @f u.lX u.sX @w2 @aH @o ?_;simp +decide only [wT,AV.fld,AV.num,mB,u.els,f,o]
   | true=>
     obtain ⟨y,hD,_,Z,Q,ad,_,_⟩:=nQ tk_con ai o;obtain ⟨_,_,rfl,⟨b,rfl,_⟩,⟨m,rfl⟩⟩:=hD;by_cases w:((xv.length:Nat):Int)=m
     ·simp +contextual +decide (maxSteps:=1000000) only [↓ wP,wQ,tf,Nat.reduceAdd,wS,A,B,C,E,F,G,H,I,J,N,M,c.len,f,u.len,u.idx,u.stab,w2,aH,o,Q,e.len,e.stab,w,R]
      simp +decide only [wT,AV.fld,AV.num,mB,u.els,Z,f,o,w]
     ·simp +contextual +decide (maxSteps:=1000000) only [↓ wP,wQ,tf,Nat.reduceAdd,wS,A,B,C,E,F,G,H,I,J,N,M,c.len,f,u.len,u.idx,u.stab,w2,aH,o,Q,e.len,e.stab,w]
      simp +decide only [wT,AV.fld,AV.num,mB,u.els,Z,f,o,w]
  by_cases k2:k=2
  ·subst k2
   cases o:inR n 0 ((xn.length:Int)-1) with
   | false=>refine PK @A @B @C @E @F @G @H @I @J @N @M c.lX @f l.lX @w1 @aH @o ?_;simp +decide only [wT,AV.fld,AV.num,mB,l.els,f,o]
   | true=>
     obtain ⟨y,hD,_,Z,Q,ad,_,_⟩:=nQ tk_node ac o;obtain ⟨_,_,_,_,rfl,⟨op,rfl⟩,⟨m,rfl⟩,q1,q2⟩:=hD;by_cases w:op=5
     ·simp +contextual +decide (maxSteps:=1000000) only [↓ wP,wQ,tf,Nat.reduceAdd,wS,A,B,C,E,F,G,H,I,J,N,M,c.len,f,l.len,l.idx,w1,aH,o,Q,w,R]
      simp +decide only [wT,AV.fld,AV.num,mB,l.els,dZ,Z,f,o,w]
     ·refine UQ @A @B @C @E @F @G @H @I @J @N @M c.lX @f l.lX l.iX @w1 @aH @o @Q @w ?_
      simp +decide only [wT,AV.fld,AV.num,mB,l.els,dZ,Z,f,o,w]
  by_cases k3:k=3
  ·subst k3
   by_cases o:n=0
   ·by_cases w:((xv.length:Nat):Int)=1
    ·refine PK @A @B @C @E @F @G @H @I @J @N @M c.lX @f e.lX @o @w @R ?_;simp +decide only [wT,AV.fld,AV.num,mB,f,w]
    ·refine AC @A @B @C @E @F @G @H @I @J @N @M c.lX @f e.lX @o @w ?_;simp +decide only [wT,AV.fld,AV.num,mB,f,w]
   ·refine CE @A @B @C @E @F @G @H @I @J @N @M c.lX @f @o ?_;simp +decide only [wT,AV.fld,AV.num,mB,f,o]
  by_cases k4:k=4
  ·subst k4
   by_cases o:n=0
   ·refine wV @A @B @C @E @F @G @H @I @J @N @M c.lX @f @o @R ?_;simp +decide only [wT,AV.fld,AV.num,mB,f]
   ·refine CE @A @B @C @E @F @G @H @I @J @N @M c.lX @f @o ?_;simp +decide only [wT,AV.fld,AV.num,mB,f,o]
  refine UP @A @B @C @E @F @G @H @I @J @N @M c.lX @f @k1 @k2 @k3 @k4 @k5 @k6 ?_;simp +decide only [wT,AV.fld,AV.num,mB,k1,k2,k3,k4,k5,k6,f]
 ·refine wV @A @B @C @E @F @G @H @I @J @N @M c.lX @f @k5 @k6 ?_
  simp +decide only [wT,AV.fld,AV.num,mB,k5,k6,f]
end
def jK (a:Int) (xs:List AV):Bool:=decide ((xs.length:Int)<=a)&&xs.all fun x=>pY x.num
abbrev UI:List AV->Option AV:=wX (fun a b=>iD a/\dA b) fun a b=>.bool (jK b.num a.els)
theorem rInts_ok:Abs.Ok Tryz.prog 54 UI:=ok2 fun a b ⟨J,M⟩=>by
 obtain ⟨c,rfl⟩:=M;have G:=(aT a J).1;obtain ⟨xs,k,H⟩:=J;have Q:=k.2;refine aF (L:=[ent 55 gH]) (elist_cons rIn6_ok.ent aE) aN (by kernel_rfl) Tryz.func54 Tryz.ntmps54 Tryz.results54 rfl rfl (aA G.und (aA aV aD)) aJ ?_;rw [k.els,show (AV.int .i64 c).num=c from rfl];refine zI ?_;refine aL (fun i e=>∃ t n low o,e=⟨27,none,54,t,[],⟨n,low,o⟩,.no⟩/\t.val 0=a/\t.val 1=.int .i64 c/\t.val 5=.int .i64 (i:Nat)/\0<=n/\i<=xs.length/\jK c xs=(decide ((xs.length:Int)<=c)&&(xs.drop i).all fun x=>pY x.num)) (fun i=>xs.length-i) 0 ⟨_,_,_,_,rfl,aG,aG,eA,aC,Nat.zero_le _,rfl⟩ ?_;rintro i _ ⟨t,n,low,o,rfl,w,A,C,V,O,f⟩
 rcases Nat.lt_or_ge i xs.length with u | F
 ·obtain ⟨y,m,U,T,N,r,R,E⟩:=bB (fun x h=>tu_int.len h) H Q u
  rw [N,List.all_cons]at f
  have v:=fun {d:Option AV}=>tu_int.pf m (d:=d)
  obtain ⟨z,rfl⟩:=m;by_cases I:((i:Nat):Int)<=c
  ·cases B:pY z with
   | false=>
     rw [show (AV.int .i64 z).num=z from rfl,B,Bool.false_and,Bool.and_false]at f;have l:inR z (-1000000000) 1000000000=false:=B;exact vI @w @A @C k.lX k.iX @r @E @v @I @aH @l @f
   | true=>
     rw [show (AV.int .i64 z).num=z from rfl,B,Bool.true_and]at f;have l:inR z (-1000000000) 1000000000=true:=B;refine HA @w @A @C k.lX k.iX @r @E @v @I @aH @l @R ?_;exact ⟨i+1,by show _-_<_-_;omega,_,_,_,_,rfl,aM @w,aM @A,aG,aC,u,f⟩
  ·have q:(((xs.length:Nat):Int)<=c)=False:=eq_false aC
   rw [decide_eq_false (fun h=>(q ▸ h:False)),Bool.false_and]at f;exact az8 @w @A @C k.lX @E @I @q @f
 ·obtain rfl:i=xs.length:=Nat.le_antisymm O F
  rw [List.drop_length,List.all_nil,Bool.and_true]at f;exact az6 @w @A @C k.lX @bH @f
abbrev jL:List AV->Option AV:=wX (fun a b=>iD a/\dA b) fun a b=>.bool (a.els.any fun x=>decide (x.num=b.num))
theorem rlisted_ok:Abs.Ok Tryz.prog 90 jL:=ok2 fun a b ⟨F,H⟩=>by
 obtain ⟨m,rfl⟩:=H;have A:=(aT a F).1;obtain ⟨xs,f,B⟩:=F;have M:=f.2;refine aF (L:=[]) aE aN (by kernel_rfl) Tryz.func90 Tryz.ntmps90 Tryz.results90 rfl rfl (aA A.und (aA aV aD)) aJ ?_;rw [f.els,show (AV.int .i64 m).num=m from rfl];refine zI ?_;refine aL (fun i e=>∃ t n low o,e=⟨18,none,90,t,[],⟨n,low,o⟩,.no⟩/\t.val 0=a/\t.val 1=.int .i64 m/\t.val 5=.int .i64 (i:Nat)/\0<=n/\i<=xs.length/\(xs.any fun x=>decide (x.num=m))=((xs.drop i).any fun x=>decide (x.num=m))) (fun i=>xs.length-i) 0 ⟨_,_,_,_,rfl,aG,aG,eA,aC,Nat.zero_le _,rfl⟩ ?_;rintro i _ ⟨t,n,low,o,rfl,u,C,E,R,J,c⟩
 rcases Nat.lt_or_ge i xs.length with q | v
 ·obtain ⟨y,k,Q,O,I,l,N,G⟩:=bB (fun x h=>tu_int.len h) B M q
  rw [I,List.any_cons]at c
  have w:=fun {d:Option AV}=>tu_int.pf k (d:=d)
  obtain ⟨z,rfl⟩:=k;by_cases r:z=m
  ·rw [show (AV.int .i64 z).num=z from rfl,decide_eq_true r,Bool.true_or]at c
   exact az9 @u @C @E f.lX f.iX @l @G @r @c
  ·rw [show (AV.int .i64 z).num=z from rfl,decide_eq_false r,Bool.false_or]at c
   refine rA @u @C @E f.lX f.iX @l @G @w @r @N ?_;exact ⟨i+1,by show _-_<_-_;omega,_,_,_,_,rfl,aM @u,aM @C,aG,aC,q,c⟩
 ·obtain rfl:i=xs.length:=Nat.le_antisymm J v
  rw [List.drop_length,List.any_nil]at c;exact PL @u @E f.lX @bH @c
def nP (os:List AV):List AV->List AV->Bool
 | _,[]=>true
 | pre,x::l=>kN os x.num && !(pre.any fun y=>decide (y.num=x.num))&&nP os (pre++[x]) l
def iK (os ts:List AV):Bool:=decide ((ts.length:Int)=(dL os:Nat))&&nP os [] ts
theorem PF {xs:List AV} {x:AV} {i:Nat} (h:xs[i]?=some x):dL (xs.take (i+1))=dL (xs.take i)+(if (x.fld 0).num=6 then 1 else 0):=by
 rw [List.take_add_one,h,dL,dL,List.filter_append,List.length_append];by_cases a:(x.fld 0).num=6<;>simp [a]
theorem qY (xs:List AV) (i:Nat):dL xs=dL (xs.take i)+dL (xs.drop i):=by rw [dL,dL,dL,<-List.length_append,<-List.filter_append,List.take_append_drop]
theorem aBf (xs:List AV):dL xs<=xs.length:=List.length_filter_le _ _
abbrev LM:List AV->Option AV:=vJ RZ fun w=>.bool (iK (w.fld 0).els (w.fld 1).els)
set_option maxHeartbeats 4000000 in
theorem rtasks_ok:Abs.Ok Tryz.prog 56 LM:=AH fun w N=>by
 have ag:=(pX w N).1;obtain ⟨os,ts,us,is,uu,rfl,ho,ht,hu,T,hv⟩:=N;have c1:=(tK _ ho).2;have c2:=(aT _ ht).2;have c3:=(oH _ hu).2;have c4:=(aT _ T).2;have c5:=(tu_int _ hv).2;obtain ⟨xs,a,Y⟩:=ho;obtain ⟨c,I,O⟩:=ht;have hl:=a.2;have ad:=I.2;have w1:=bY a.2;refine aF (L:=[ent 55 gH,ent 90 jL]) (elist_cons rIn6_ok.ent (elist_cons rlisted_ok.ent aE)) aN (by kernel_rfl) Tryz.func56 Tryz.ntmps56 Tryz.results56 rfl rfl (aA ag.und aD) aJ ?_;show Wk _ _ _ _ _ (jR _ _ (fun _ r=>r=.bool (iK os.els ts.els)) _);rw [a.els,I.els];refine EW @c1 @c2 @c3 @c4 @c5 ?_;refine aL (fun i e=>∃ t n low o,e=⟨62,none,56,t,[],⟨n,low,o⟩,.no⟩/\t.val 1=.ptr 0 0 0/\t.val 3=.int .i64 ((dL (xs.take i):Nat):Int)/\t.val 4=.int .i64 (i:Nat)/\o.get 0=some (aQ 0 [os,ts,us,is,uu])/\1<=n/\i<=xs.length/\dL xs=dL (xs.take i)+dL (xs.drop i)) (fun i=>xs.length-i) 0 ⟨_,_,_,_,rfl,aG,eA,eA,aG,aC,Nat.zero_le _,qY _ _⟩ ?_;rintro i _ ⟨t,n,low,o,rfl,B,C,t4,q,hn,T,l⟩;have H:=eM (show 0<n by omega)
 rcases Nat.lt_or_ge i xs.length with A | J
 ·obtain ⟨y,E,hm,hg,hd,f,N,hc⟩:=bB (fun x h=>tk_ob.len h) Y hl A
  have G:=fun {d:Option AV}=>tk_ob.pf E (d:=d)
  have Q:=PF hg;have ac:=aBf (xs.take i);rw [List.length_take]at ac;obtain ⟨_,_,v,g,rfl,⟨k,rfl⟩,⟨m,rfl⟩,X,R⟩:=E;have cv:=(tu_vals _ X).2;have cg:=(gZ _ R).2
  have ah:IntKind.i64.wrap (((dL (xs.take i):Nat):Int)+1)=((dL (xs.take i)+1:Nat):Int):=by rw [IntWalk.i64_in _ aC];rfl
  by_cases k6:k=6
  ·rw [show ((AV.agg [.int .i64 k,.int .i64 m,v,g]).fld 0).num=k from rfl,if_pos k6]at Q
   refine HA @B @C @t4 @q @H a.lX a.iX @f @hc @k6 @N @ah ?_;exact ⟨i+1,by show _-_<_-_;omega,_,_,_,_,rfl,aM @B,aM @Q,aG,by simp +decide only [q],aC,A,qY _ _⟩
  ·rw [show ((AV.agg [.int .i64 k,.int .i64 m,v,g]).fld 0).num=k from rfl,if_neg k6]at Q
   simp only [Nat.add_zero]at Q;refine rA @B @t4 @q @H a.lX a.iX @f @hc @k6 @N ?_;exact ⟨i+1,by show _-_<_-_;omega,_,_,_,_,rfl,aM @B,av2 @C @Q,aG,by simp +decide only [q],aC,A,qY _ _⟩
 ·obtain rfl:i=xs.length:=Nat.le_antisymm T J
  rw [List.take_length]at C;clear l
  by_cases k1:((c.length:Nat):Int)=((dL xs:Nat):Int)
  ·have aj:c.length=dL xs:=by omega
   have M:iK xs c=nP xs [] c:=by rw [iK,decide_eq_true k1,Bool.true_and]
   rw [M];refine UO @B @C @t4 @q @H a.lX @bH I.lX @k1 ?_;refine aL (fun i e=>∃ t n low o,e=⟨62,none,56,t,[],⟨n,low,o⟩,.no⟩/\t.val 1=.ptr 0 0 0/\t.val 3=.int .i64 ((dL xs:Nat):Int)/\t.val 5=.int .i64 (i:Nat)/\o.get 0=some (aQ 0 [os,ts,us,is,uu])/\1<=n/\i<=c.length/\nP xs [] c=nP xs (c.take i) (c.drop i)) (fun i=>c.length-i) 0 ⟨_,_,_,_,rfl,aM @B,aM @C,eA,by simp +decide only [q],aC,Nat.zero_le _,rfl⟩ ?_;rintro i _ ⟨t,n,low,o,rfl,B,C,Z,q,hn,T,l⟩;have H:=eM (show 0<n by omega)
   rcases Nat.lt_or_ge i c.length with A | J
   ·obtain ⟨y,E,hm,hg,hd,f,N,hc⟩:=bB (fun x h=>tu_int.len h) O ad A
    have G:=fun {d:Option AV}=>tu_int.pf E (d:=d)
    have u:(((i:Nat):Int)<((dL xs:Nat):Int))=True:=eq_true aC;obtain ⟨b,hb,V⟩:=I.upto (k:=1) (fun x hm=>tu_int.len (O x hm)) (n:=((i:Nat):Int)) aC aC;rw [Int.toNat_natCast]at hb
    have af:c.take (i+1)=c.take i++[y]:=by rw [List.take_add_one,hg];rfl
    obtain ⟨z,rfl⟩:=E
    have U:jL [b,.int .i64 z]=some (.bool ((c.take i).any fun x=>decide (x.num=z))):=by
     rw [jL,sg2_eq ⟨⟨_,hb,fun x hx=>O x (List.mem_of_mem_take hx)⟩,_,rfl⟩,hb.els];rfl
    rw [hd,nP,show (AV.int .i64 z).num=z from rfl,<-af]at l
    cases k2:inR z 0 ((xs.length:Int)-1) with
    | false=>
      rw [kN,k2,Bool.false_and,Bool.false_and,Bool.false_and]at l;exact PN @B @C @Z @q @H a.lX I.iX @f @u @G @w1 @aH @k2 @l
    | true=>
      obtain ⟨o',aa,_,ae,F,ai,_,_⟩:=nQ tk_ob Y k2;obtain ⟨_,_,v,g,rfl,⟨k,rfl⟩,⟨m,rfl⟩,X,R⟩:=aa
      have ab:kN xs z=decide (k=6):=by rw [kN,k2,Bool.true_and,ae];rfl
      rw [ab]at l;by_cases k6:k=6
      ·rw [decide_eq_true k6,Bool.true_and]at l
       cases k3:(c.take i).any fun x=>decide (x.num=z) with
       | true=>
         rw [k3,Bool.not_true,Bool.false_and]at l;exact aQr @B @C @Z @q @H a.lX a.iX I.iX @f @F @u @G @w1 @aH @k2 @k6 @V @U @k3 @l
       | false=>
         rw [k3,Bool.not_false,Bool.true_and]at l;refine UQ @B @C @Z @q @H a.lX a.iX I.iX @f @F @u @G @w1 @aH @k2 @k6 @V @U @k3 @N ?_;exact ⟨i+1,by show _-_<_-_;omega,_,_,_,_,rfl,aM @B,aM @C,aG,by simp +decide only [q],aC,A,l⟩
      ·rw [decide_eq_false k6,Bool.false_and,Bool.false_and]at l
       exact aMp @B @C @Z @q @H a.lX a.iX I.iX @f @F @u @G @w1 @aH @k2 @k6 @l
   ·obtain rfl:i=c.length:=Nat.le_antisymm T J
    have u:(((c.length:Nat):Int)<((dL xs:Nat):Int))=False:=eq_false aC;rw [List.drop_length,nP]at l;exact az4 @C @Z @u @l
  ·refine UO @B @C @t4 @q @H a.lX @bH I.lX @k1 ?_
   rw [iK,decide_eq_false k1];rfl
def UJ (ns cs:List AV) (a no:Int) (o:AV):Bool:=mB ns cs a no (o.fld 0).num (o.fld 1).num (o.fld 2).els (o.fld 3).els
def oG (ns cs:List AV) (a:Int) (os ts us is:List AV) (n:Int):Bool:=
 decide ((os.length:Int)<=120)&&(decide ((us.length:Int)<=100)&&(jK 50 is&&(inR n 0 1000000000&&(iK os ts&&(os.all (UJ ns cs a os.length)&&us.all AG)))))
theorem aGs {a b:AV} (k:dD a) (l:RZ b):∃ ns fs mm cs os ts us is uu,a=pg ns fs mm cs/\b=wd os ts us is uu/\RW ns fs mm cs os ts us is uu:=by
 obtain ⟨_,_,_,_,rfl,a1,a2,a3,a4⟩:=k;obtain ⟨_,_,_,_,_,rfl,c,d,e,f,h⟩:=l;exact ⟨_,_,_,_,_,_,_,_,_,rfl,rfl,a1,a2,a3,a4,c,d,e,f,h⟩
abbrev LN:List AV->Option AV:=wX (fun a b=>dD a/\RZ b) fun a b=>.bool (oG (a.fld 0).els (a.fld 3).els (a.fld 1).els.length (b.fld 0).els (b.fld 1).els (b.fld 2).els (b.fld 3).els (b.fld 4).num)
set_option maxHeartbeats 8000000 in
theorem rWorld_ok:Abs.Ok Tryz.prog 19 LN:=ok2 fun a b ⟨ha,hb⟩=>by
 obtain ⟨ns,fs,mm,cs,os,ts,us,is,uu,rfl,rfl,h⟩:=aGs ha hb;obtain ⟨I,J,M,N,O,Q,R,T,U⟩:=h.cells;obtain ⟨m,hm⟩:=h.uu;have C:UI [is,.int .i64 50]=some (.bool (jK 50 is.els)):=sg2_eq ⟨h.is,_,rfl⟩;have aa:LM [wd os ts us is uu]=some (.bool (iK os.els ts.els)):=cR h.wd;obtain ⟨E,k,ae⟩:=h.os;obtain ⟨F,l,af⟩:=h.us
 refine aF (L:=[ent 55 gH,ent 54 UI,ent 56 LM,ent 57 (aQo (pg ns fs mm cs) (wd os ts us is uu) ns.els cs.els fs.els.length os.els.length)]) (elist_cons rIn6_ok.ent (elist_cons rInts_ok.ent (elist_cons rtasks_ok.ent (elist_cons (UH h).ent aE))))
  (fun r=>(bif Nat.beq r 6 then [7] else [],[])) (by kernel_rfl) Tryz.func19 Tryz.ntmps19 Tryz.results19 rfl rfl (aA (cL _ h.pg).1.und (aA (pX _ h.wd).1.und aD)) aJ ?_
 subst hm;show Wk _ _ _ _ _ (jR _ _ (fun _ r=>r=.bool (oG ns.els cs.els fs.els.length os.els ts.els us.els is.els m)) _);have c:oG ns.els cs.els fs.els.length os.els ts.els us.els is.els m=(decide ((os.els.length:Int)<=120)&&(decide ((us.els.length:Int)<=100)&&(jK 50 is.els&&(inR m 0 1000000000&&(iK os.els ts.els&&(os.els.all (UJ ns.els cs.els fs.els.length os.els.length)&&us.els.all AG)))))):=rfl;generalize oG ns.els cs.els fs.els.length os.els ts.els us.els is.els m=W at *;rw [k.els,l.els]at c;have ab:=k.2;have ac:=l.2;by_cases k1:((E.length:Nat):Int) > 120
 ·rw [decide_eq_false (show ¬ ((E.length:Nat):Int)<=120 by omega),Bool.false_and]at c
  exact vI @I @J @M @N @O @Q @R @T @U k.lX @k1 @c
 by_cases k2:((F.length:Nat):Int) > 100
 ·rw [decide_eq_false (show ¬ ((F.length:Nat):Int)<=100 by omega),Bool.false_and,Bool.and_false]at c
  exact PN @I @J @M @N @O @Q @R @T @U k.lX l.lX @k1 @k2 @c
 rw [decide_eq_true (show ((E.length:Nat):Int)<=120 by omega),Bool.true_and,decide_eq_true (show ((F.length:Nat):Int)<=100 by omega),Bool.true_and]at c
 cases k3:jK 50 is.els with
 | false=>
   rw [k3,Bool.false_and]at c;exact aQp @I @J @M @N @O @Q @R @T @U k.lX l.lX @k1 @k2 @C @k3 @c
 | true=>
 rw [k3,Bool.true_and]at c
 cases k4:inR m 0 1000000000 with
 | false=>
   rw [k4,Bool.false_and]at c;exact aQq @I @J @M @N @O @Q @R @T @U k.lX l.lX @k1 @k2 @C @k3 @aH @k4 @c
 | true=>
 rw [k4,Bool.true_and]at c
 cases k5:iK os.els ts.els with
 | false=>
   rw [<-k.els,k5,Bool.false_and]at c;exact aQr @I @J @M @N @O @Q @R @T @U k.lX l.lX @k1 @k2 @C @k3 @aH @k4 @aa @k5 @c
 | true=>
 rw [<-k.els,k5,Bool.true_and,k.els]at c;refine UP @I @J @M @N @O @Q @R @T @U k.lX l.lX @k1 @k2 @C @k3 @aH @k4 @aa @k5 ?_;refine aL (fun i e=>∃ t n low o,e=⟨75,none,19,t,[],⟨n,low,o⟩,.no⟩/\t.val 2=.ptr 0 0 0/\t.val 3=.ptr 1 0 0/\t.val 5=.int .i64 (i:Nat)/\o.get 0=some (aQ 0 [ns,fs,mm,cs])/\o.get 1=some (aQ 0 [os,ts,us,is,.int .i64 m])/\2<=n/\i<=E.length/\W=((E.drop i).all (UJ ns.els cs.els fs.els.length E.length)&&F.all AG)) (fun i=>E.length-i) 0 ⟨_,_,_,_,rfl,aG,aG,eA,qO,aG,aC,Nat.zero_le _,c⟩ ?_;rintro i _ ⟨t,n,low,o,rfl,Y,A,t5,V,u,hn,hi,f⟩;have f0:=eM (show 0<n by omega);have G:=eM (show 1<n by omega)
 rcases Nat.lt_or_ge i E.length with w | H
 ·obtain ⟨y,B,hm,hg,hd,q,hw,X⟩:=bB (fun x h=>tk_ob.len h) ae ab w
  rw [hd,List.all_cons,Bool.and_assoc]at f
  have Z:=fun {d:Option AV}=>tk_ob.pf B (d:=d)
  have hv:aQo (pg ns fs mm cs) (wd os ts us is (.int .i64 m)) ns.els cs.els fs.els.length os.els.length [pg ns fs mm cs,wd os ts us is (.int .i64 m),y]=some (.bool (UJ ns.els cs.els fs.els.length os.els.length y)):=kP ⟨rfl,rfl,B⟩;rw [<-k.els]at f
  cases hp:UJ ns.els cs.els fs.els.length os.els.length y with
  | false=>
    rw [hp,Bool.false_and]at f;exact aHc @Y @A @t5 @V @u @f0 @G k.lX k.iX @q @X @Z @hv @hp @f
  | true=>
    rw [hp,Bool.true_and]at f;refine wV @Y @A @t5 @V @u @f0 @G k.lX k.iX @q @X @Z @hv @hp @hw ?_;rw [k.els]at f;exact ⟨i+1,by show _-_<_-_;omega,_,_,_,_,rfl,aM @Y,aM @A,aG,by simp +decide only [V],by simp +decide only [u],aC,w,f⟩
 ·obtain rfl:i=E.length:=Nat.le_antisymm hi H
  rw [List.drop_length,List.all_nil,Bool.true_and]at f;refine PJ @A @t5 @u @G k.lX @bH ?_;have ad:=f;clear f;refine aL (fun i e=>∃ t n low o,e=⟨75,none,19,t,[],⟨n,low,o⟩,.no⟩/\t.val 2=.ptr 0 0 0/\t.val 3=.ptr 1 0 0/\t.val 6=.int .i64 (i:Nat)/\o.get 0=some (aQ 0 [ns,fs,mm,cs])/\o.get 1=some (aQ 0 [os,ts,us,is,.int .i64 m])/\2<=n/\i<=F.length/\W=(F.drop i).all AG) (fun i=>F.length-i) 0 ⟨_,_,_,_,rfl,aM @Y,aM @A,eA,by simp +decide only [V],by simp +decide only [u],aC,Nat.zero_le _,ad⟩ ?_;rintro i _ ⟨t,n,low,o,rfl,Y,A,t6,V,u,hn,hi,f⟩;have G:=eM (show 1<n by omega)
  rcases Nat.lt_or_ge i F.length with w | H
  ·obtain ⟨y,B,hm,hg,hd,q,hw,X⟩:=bB (fun x h=>tk_out.len h) af ac w
   rw [hd,List.all_cons]at f;obtain ⟨_,_,rfl,⟨p,rfl⟩,⟨v,rfl⟩⟩:=B;have he:AG (.agg [.int .i64 p,.int .i64 v])=(inR p 0 3&&inR v (-1000000000) 1000000000):=rfl;rw [he]at f
   cases k6:inR p 0 3 with
   | false=>
     rw [k6,Bool.false_and,Bool.false_and]at f;exact PM @A @t6 @u @G l.lX l.iX @q @X @aH @k6 @f
   | true=>
     cases k7:inR v (-1000000000) 1000000000 with
     | false=>
       rw [k6,k7,Bool.and_false,Bool.false_and]at f;exact vI @A @t6 @u @G l.lX l.iX @q @X @aH @k6 @k7 @f
     | true=>
       rw [k6,k7,Bool.and_true,Bool.true_and]at f;refine HA @A @t6 @u @G l.lX l.iX @q @X @aH @k6 @k7 @hw ?_;exact ⟨i+1,by show _-_<_-_;omega,_,_,_,_,rfl,aM @Y,aM @A,aG,by simp +decide only [V],by simp +decide only [u],aC,w,f⟩
  ·obtain rfl:i=F.length:=Nat.le_antisymm hi H
   rw [List.drop_length,List.all_nil]at f;exact XX @A @t6 @u @G l.lX @bH @f
end
end Go.Proofs.YtdipddlhenoglaaGreat
/-
 Calls that read the store: whether something is so of all numbers of a list,by a function that reads what its maker keeps.
-/
namespace Go.Abs
noncomputable section
variable {P:Program}
theorem pU {L:List kG} (d:∀ x∈L,bM P x) (H:dG) {f:FuncId} {fn:Func} {c:Code} {N:Nat} {b:List ResultVar} {args:List AV} {v:AV} {s:Sto} (a:okFn P f=true) (l:P.funcs[f]?=some fn) (m:fn.ntmps=N) (q:fn.results=b.toArray) (k:fn.body=some c)
 (e:Nat.ble args.length N=true) (u:nE s.n v)
 (h:Wk P (orcL L) H c ⟨N,none,f,Tr.leaf.lay 0 args,[],⟨s.n,s.n,s.o⟩,.no⟩ (jR P b (fun S r=>s.n<=S.low/\r=v) fun _ _=>False)):bO P f args s (.ret v none):=by
 refine VF (mT d) a l k u ?_;rw [gN m e,show fn.results.toList=b by rw [q]];exact h.sound
theorem aMg {n low b:Nat} {o:Tr AObj} {x:AObj}:Sim ⟨n,low,o⟩ ⟨n+1,b,o.set n x⟩:=⟨Nat.le_succ _,fun id c=>by
 have a:id<n:=c
 rw [Sto.get_mk a,Sto.get_mk aC,Tr.get_set_ne _ _ aC]⟩
theorem LP {s:Sto} {low:Nat}:Sim s ⟨s.n,low,s.o⟩:=⟨Nat.le_refl _,fun _ _=>rfl⟩
end
end Go.Abs
namespace Go.Proofs.YtdipddlhenoglaaGreat
open Go.Abs Go Go.Abs.TryzF
noncomputable section
set_option maxRecDepth 10000
abbrev aMh (g:FuncId) (cap:List AV) (D:AV->Prop) (S:Sto->Prop) (p:AV->Bool):kG:=entB g (fun args s=>(∃ x,D x/\args=x::cap)/\S s) fun args=>.bool (p (args.headD .top))
theorem XT {g:FuncId} {cap:List AV} {D:AV->Prop} {S:Sto->Prop} {p:AV->Bool} (h:∀ x,D x->∀ s,S s->bO Tryz.prog g (x::cap) s (.ret (.bool (p x)) none)):bM Tryz.prog (aMh g cap D S p):=
 entB_ok fun args s ⟨⟨x,b,e⟩,a⟩=>by subst e;exact h x b s a
theorem IV {g:FuncId} {cap:List AV} {D:AV->Prop} {S:Sto->Prop} {p:AV->Bool} {L:List kG} {x:AV} {s:Sto} (b:D x) (a:S s):orcL (aMh g cap D S p::L) g (x::cap) s=some (.ret (.bool (p x)) none):=jA ⟨⟨x,b,rfl⟩,a⟩
variable {g:FuncId} {cap:List AV} {D:AV->Prop} {S:Sto->Prop} {p:AV->Bool}
theorem aBg (J:∀ s s',Sim s s'->S s->S s') (E:∀ x,D x->dA x) (h:∀ x,D x->∀ s,S s->bO Tryz.prog g (x::cap) s (.ret (.bool (p x)) none)) {a:AV} (M:TSl D a) (s:Sto) (y:S s):
 bO Tryz.prog 116 [a,.func (.func g) [] cap] s (.ret (.int .i64 (tL p a.els 0)) none):=by
 obtain ⟨xs,r,T⟩:=M;have Q:=r.2;refine pU (L:=[aMh g cap D S p]) (elist_cons (XT h) aE) aN (by kernel_rfl) Tryz.func116 Tryz.ntmps116 Tryz.results116 rfl rfl aV ?_;have b:∀ {low:Nat},S ⟨s.n,low,s.o⟩:=J _ _ LP y;obtain ⟨n0,H,I⟩:=s;have b:∀ {low:Nat},S ⟨n0,low,I⟩:=b;rw [r.els];refine wU r.lX ?_;refine aL (fun i e=>∃ t,e=⟨19,none,116,t,[],⟨n0,n0,I⟩,.no⟩/\t.val 0=a/\t.val 1=.func (.func g) [] cap/\t.val 7=.int .i64 (xs.length:Nat)/\t.val 8=.int .i64 (i:Nat)/\i<=xs.length/\tL p xs 0=tL p (xs.drop i) i) (fun i=>xs.length-i) 0 ⟨_,rfl,aG,aG,aG,eA,Nat.zero_le _,rfl⟩ ?_;rintro i _ ⟨t,rfl,A,B,v,C,O,c⟩
 rcases Nat.lt_or_ge i xs.length with m | w
 ·obtain ⟨x,f,V,U,N,l,R,F⟩:=bB (k:=1) (fun x h=>tu_int.len (E x h)) T Q m
  rw [N,tL]at c
  have q:=fun {d:Option AV}=>tu_int.pf (E x f) (d:=d)
  have G:=fun {low:Nat}=>IV (g:=g) (cap:=cap) (p:=p) (L:=[]) f (b (low:=low))
  cases u:p x with
  | true=>
    rw [u,if_pos rfl]at c;exact vI @A @B @v @C r.iX @l @F @q @G @u @c @Nat.le_refl
  | false=>
    rw [u,if_neg (by decide)]at c;refine xY @A @B @v @C r.iX @l @F @q @G @u @R ?_;exact ⟨i+1,by show _-_<_-_;omega,_,rfl,aM @A,aM @B,aM @v,aG,m,c⟩
 ·obtain rfl:i=xs.length:=Nat.le_antisymm O w
  rw [List.drop_length,tL]at c;exact PL @v @C @bH @c @Nat.le_refl
theorem LQ (d:∀ s s',Sim s s'->S s->S s') (l:∀ x,D x->dA x) (h:∀ x,D x->∀ s,S s->bO Tryz.prog g (x::cap) s (.ret (.bool (p x)) none)) {a:AV} (m:TSl D a) (s:Sto) (c:S s):
 bO Tryz.prog 72 [a,.func (.func g) [] cap] s (.ret (.bool (a.els.any p)) none):=by
 refine pU (L:=[entB 116 (fun args s=>args=[a,.func (.func g) [] cap]/\S s) fun _=>.int .i64 (tL p a.els 0)]) (elist_cons (entB_ok fun args s ⟨e,r⟩=>by subst e;exact aBg d l h m s r) aE) aN (by kernel_rfl) Tryz.func72 Tryz.ntmps72 Tryz.results72 rfl rfl aJ ?_;have b:∀ {low:Nat},S ⟨s.n,low,s.o⟩:=d _ _ LP c;obtain ⟨n0,k,u⟩:=s
 have q:=fun {low:Nat}=>jA (f:=116) (D:=fun args s=>args=[a,.func (.func g) [] cap]/\S s) (g:=fun _=>.int .i64 (tL p a.els 0)) (L:=[]) ⟨rfl,b (low:=low)⟩
 refine JA @q @Nat.le_refl ?_;rw [EZ]
theorem aMi (r:∀ x,D x->dA x) (h:∀ x,D x->∀ s,S s->bO Tryz.prog g (x::cap) s (.ret (.bool (p x)) none)) (l:∀ s s',Sim s s'->S s->S s') (c:Nat) (x:AV) (q:D x) (s:Sto) (e:S s) (d:s.get c=some (aQ 0 [.func (.func g) [] cap])):
 bO Tryz.prog 304 (x::[.ptr c 0 0]) s (.ret (.bool (!p x)) none):=by
 refine pU (L:=[aMh g cap D S p]) (elist_cons (XT h) aE) aN (by kernel_rfl) Tryz.func304 Tryz.ntmps304 Tryz.results304 rfl rfl aJ ?_;have b:∀ {low:Nat},S ⟨s.n,low,s.o⟩:=l _ _ LP e;obtain ⟨n0,f,u⟩:=s;have a:c<n0:=Sto.get_lt d;rw [Sto.get_mk a]at d;have k:=eM a
 have m:=fun {low:Nat}=>IV (g:=g) (cap:=cap) (p:=p) (L:=[]) q (b (low:=low))
 exact az4 @m @d @k @Nat.le_refl
theorem aMj (l:∀ s s',Sim s s'->S s->S s') (v:∀ x,D x->dA x) (h:∀ x,D x->∀ s,S s->bO Tryz.prog g (x::cap) s (.ret (.bool (p x)) none)) {a:AV} (w:TSl D a) (s:Sto) (r:S s):
 bO Tryz.prog 245 [a,.func (.func g) [] cap] s (.ret (.bool (a.els.all p)) none):=by
 have m:∀ u k,Sim u k->(S u/\u.get s.n=some (aQ 0 [.func (.func g) [] cap]))->(S k/\k.get s.n=some (aQ 0 [.func (.func g) [] cap])):=fun u k b ⟨A,B⟩=>⟨l u k b A,b.get B⟩
 have C:=fun u (b:S u/\u.get s.n=some (aQ 0 [.func (.func g) [] cap]))=>LQ (g:=304) (cap:=[.ptr s.n 0 0]) (D:=D) (p:=fun x=>!p x) m v (fun x G u b=>aMi v h l s.n x G u b.1 b.2) w u b
 have q:∀ {low c:Nat},S ⟨s.n+1,c,s.o.set s.n (aQ 0 [.func (.func g) [] cap])⟩:=fun {low c}=>l ⟨s.n,low,s.o⟩ _ aMg (l _ _ LP r)
 have d:=w;obtain ⟨xs,F,_⟩:=d;obtain ⟨n0,y,H⟩:=s;refine pU (L:=[entB 72 (fun args u=>args=[a,.func (.func 304) [] [.ptr n0 0 0]]/\(S u/\u.get n0=some (aQ 0 [.func (.func g) [] cap]))) fun _=>.bool (a.els.any fun x=>!p x)]) (elist_cons (entB_ok fun args u ⟨e,b⟩=>by subst e;exact C u b) aE) aN (by kernel_rfl) Tryz.func245 Tryz.ntmps245 Tryz.results245 rfl rfl aJ ?_
 have E:=fun {low:Nat}=>jA (f:=72) (D:=fun args u=>args=[a,.func (.func 304) [] [.ptr n0 0 0]]/\(S u/\u.get n0=some (aQ 0 [.func (.func g) [] cap]))) (g:=fun _=>.bool (a.els.any fun x=>!p x)) (L:=[]) (s:=⟨n0+1,low,H.set n0 (aQ 0 [.func (.func g) [] cap])⟩) ⟨rfl,q (low:=0),by rw [Sto.get_mk aC,Tr.get_set_same]⟩
 refine JA @E @Nat.le_refl ?_;rw [<-List.not_all_eq_any_not,Bool.not_not]
def Acc1 (u:Sto) (c:Nat) (k:Nat) (l:List AV):Prop:=∃ v,u.get c=some (aQ 0 [v])/\(l=[]/\v=.nils∨l≠[]/\∃ id g,v=.sl id g 0 l.length (.room 1)/\u.get id=some (aQ g l)/\k<id)
theorem Acc1.sim {b:Nat} {u d:Sto} {c k:Nat} {l:List AV} (h:SimX b u d) (r:c≠b) (w:b<=k) (q:Acc1 u c k l):Acc1 d c k l:=by
 obtain ⟨v,f,a⟩:=q;refine ⟨v,h.get f r,?_⟩
 rcases a with a | ⟨e,id,g,rfl,m,o⟩
 ·exact .inl a
 ·exact .inr ⟨e,id,g,rfl,h.get m aC,o⟩
theorem Acc1.new {u:Sto} {c k id g m:Nat} {l:List AV} (a:u.get c=some (aQ 0 [.sl id g 0 m (.room 1)])) (b:u.get id=some (aQ g l)) (f:m=l.length) (e:l≠[]) (d:k<id):Acc1 u c k l:=
 ⟨_,a,.inr ⟨e,id,g,by rw [f],b,d⟩⟩
def gF (n:Nat):List AV:=(List.range n).map fun i=>.int .i64 (i:Nat)
def pV (n:Nat):AV:=if n=0 then .nils else .fz (gF n) false
theorem AB (n:Nat):(gF n).length=n:=by simp [gF]
theorem EO (n:Nat):gF (n+1)=gF n++[.int .i64 (n:Nat)]:=by simp [gF,List.range_succ]
theorem uR (n:Nat):∀ x∈gF n,dA x:=fun x a=>by obtain ⟨i,_,rfl⟩:=List.mem_map.1 a;exact ⟨_,rfl⟩
theorem EP {n:Nat} (h:n<=9223372036854775807):Sl (pV n) (gF n):=by
 unfold pV;split
 ·rename_i a;subst a;exact ⟨.inl ⟨rfl,rfl⟩,Nat.zero_le _⟩
 ·exact ⟨.inr ⟨false,rfl⟩,by rw [AB];exact h⟩
def xW (n:Nat):List (List AV):=(List.range n).map fun i=>[.int .i64 (i:Nat)]
abbrev BJ (n:Nat):AV:=.func (.func 305) [] [.pf (.int .i64 (n:Nat))]
theorem IW (n:Nat):UnderE 0 (BJ n):=jD (by intro x a;cases a) (by intro x a;simp at a;subst a;exact ⟨2,rfl⟩)
theorem UK (n:Nat):Abs.Returns Tryz.prog 246 [.int .i64 (n:Nat)] (BJ n):=by
 refine bU (L:=[]) aE aN (by kernel_rfl) Tryz.func246 Tryz.ntmps246 Tryz.results246 rfl rfl (aA aV aD) ?_;refine zI ?_;exact mS (cs:=[.int .i64 (n:Nat)]) rfl rfl (aA aV aD)
set_option maxHeartbeats 1000000 in
theorem LR (m:Nat) (Z:m<9223372036854775807) {O:cH} (I:∀ a σ,O 305 a σ=none):aUn Tryz.prog O (BJ m) (xW m):=by
 intro l J D X σ C r L M q V
 have B:(xW m).length=m:=by simp [xW]
 refine AI (I _ _) (by kernel_rfl) Tryz.func305 rfl (Wk.sound (H:=aN) ?_);rw [B];show Wk _ _ _ _ ⟨13,none,305,Tr.leaf.lay 0 [.func (.yield l) [] [],.pf (.int .i64 (m:Nat))],[],⟨σ.n,σ.n,σ.o⟩,.no⟩ _;refine zI ?_
 refine aL (fun i e=>∃ t u,e=⟨13,none,305,t,[],u,.no⟩/\t.val 0=.func (.yield l) [] []/\t.val 4=.int .i64 (m:Nat)/\t.val 5=.int .i64 (i:Nat)/\i<=m/\l<u.n/\J i u/\(i=0∨u.low<=l)) (fun i=>m-i) 0
  ⟨_,_,rfl,aG,aG,eA,Nat.zero_le _,C,r _ _ _ (Sim.low σ σ.n) q,.inl rfl⟩ ?_
 rintro i _ ⟨t,⟨n,low,o⟩,rfl,Q,F,G,Y,N,R,y⟩;by_cases A:i<m
 ·have E:(((i:Nat):Int)<((m:Nat):Int))=True:=eq_true aC
  have U:IntKind.i64.wrap ((i:Int)+1)=((i+1:Nat):Int):=by rw [IntWalk.i64_in _ aC];rfl
  refine CT @Q @F @G @E ?_;have c:=V i [.int .i64 (i:Nat)] (by simp [xW,A]) ⟨n,low,o⟩ N R
  refine c.mono fun res T=>?_
  have f:rK l J D X i ⟨n,low,o⟩ res:=T;clear T c
  cases res with
  | pan v d=>
    rw [UX];have k:(d.getD ⟨n,low,o⟩).low<=l/\X v (d.getD ⟨n,low,o⟩):=f;generalize d.getD ⟨n,low,o⟩=u at *;refine zI ?_;exact aQw rfl (qB _ _ _ (X v) (M v) k.2 (.inl (Nat.lt_of_le_of_lt k.1 C)))
  | ret v d=>
    rw [fA]
    have k:(v=.bool true/\(d.getD ⟨n,low,o⟩).low<=l/\l<(d.getD ⟨n,low,o⟩).n/\J (i+1) (d.getD ⟨n,low,o⟩))∨(v=.bool false/\(d.getD ⟨n,low,o⟩).low<=l/\D (d.getD ⟨n,low,o⟩)):=by
     cases v with
     | bool b=>cases b with
       | true=>exact .inl ⟨rfl,f⟩
       | false=>exact .inr ⟨rfl,f⟩
     | _=>exact f.elim
    generalize d.getD ⟨n,low,o⟩=u at *
    rcases k with ⟨rfl,k1,k0,k2⟩ | ⟨rfl,k1,k2⟩
    ·refine JA @G @U ?_
     exact ⟨i+1,by show _-_<_-_;omega,_,_,rfl,aM @Q,aM @F,aG,A,k0,k2,.inr k1⟩
    ·refine zI ?_
     exact tR rfl (vs:=[]) rfl (.inr (qB _ _ _ D L k2 (.inl (Nat.lt_of_le_of_lt k1 C))))
 ·have E:(((i:Nat):Int)<((m:Nat):Int))=False:=eq_false aC
  refine GU @F @G @E ?_
  have w:i=m:=by omega
  refine tR rfl (vs:=[]) rfl (.inl (qB _ _ _ (J m) (r _) (w ▸ R) ?_))
  rcases y with h | h
  ·refine .inr ?_
   rw [<-w,h];exact q
  ·exact .inl (Nat.lt_of_le_of_lt h C)
set_option maxHeartbeats 4000000 in
theorem LS (m:Nat) (T:m<=1000):Abs.Returns Tryz.prog 123 [.nils,BJ m] (pV m):=by
 refine UW (L:=[]) aE aN (by kernel_rfl) Tryz.func123 Tryz.ntmps123 Tryz.results123 rfl rfl (aA fB (aA (IW m).und aD)) ?_
 have C:(xW m).length=m:=by simp [xW]
 refine zI ?_;refine aNf (xs:=xW m) (fun i u=>Acc1 u 0 2 (gF i)) (fun _ _=>False) (fun _ _=>False) ?_ (fun i u U h Q=>Acc1.sim h (by decide) (by decide) Q) (fun _ _ _ _ h=>h) (fun _ _ _ _ h=>h) (fun _ _ h=>h.elim) ⟨.nils,rfl,.inl ⟨rfl,rfl⟩⟩ ?_ ?_ (fun _ _ _ h=>h.elim) (fun _ _ _ _ h=>h.elim) (fun _ _ h=>h.elim)
 ·simp +decide only [↓ nR]
  exact LR m aC fun a u=>rfl
 ·rintro i x k ⟨n,low,o⟩ G d r ⟨v,B,c⟩
  have R:i<m:=by
   have:=(List.getElem?_eq_some_iff.1 k).1
   simpa [xW] using this
  have I:x=[.int .i64 (i:Nat)]:=by
   simp [xW,R]at k;exact k.symm
  subst I;have H:2<n:=G;have e:=eM (i:=0) (n:=n) aC;have w:=eM (i:=1) (n:=n) aC;have E:=eM (i:=2) (n:=n) aC;simp +decide only [Sto.get_mk,e,w,E,Nat.reduceAdd]at d r B
  have f:(2*((gF i).length+1)+1024)*8<=281474976710656/\(gF i).length+1<4611686018427387904:=by rw [AB];omega
  refine ⟨_,rfl,?_⟩
  rcases c with ⟨A,rfl⟩ | ⟨A,id,g,rfl,b,N⟩
  ·simp +contextual +decide (maxSteps:=1000000) only [↓ wP,wQ,aIa,tf,Nat.reduceAdd,Nat.reduceMul,e,w,E,eP,d,r,B,jO,iS,Env.setS,ne_eq]
   rw [EO,A];refine Acc1.new (id:=n+1) (g:=0) (m:=1) ?_ ?_ rfl (by simp) aC
   ·exact ag1 @e
   ·exact ag2 @e @eP
  ·have q:id<n:=Sto.get_lt b
   rw [Sto.get_mk q]at b;have J:=eM q
   have M:id≠2/\2≠id/\id≠0/\0≠id/\id≠1/\1≠id:=⟨aC,aC,aC,aC,aC,aC⟩
   simp +contextual +decide (maxSteps:=1000000) only [↓ wP,wQ,aIa,tf,Nat.reduceAdd,Nat.mul_one,Nat.zero_add,e,w,E,J,M,eP,d,r,B,b,f,jO,iS,Env.setS,ne_eq];rw [EO];refine Acc1.new (id:=id) (g:=g+1) (m:=(gF i).length+1) ?_ ?_ (by simp) (by simp) N
   ·exact ag1 @e
   ·exact ag2 @J @M
 ·rintro ⟨n,low,o⟩ G d ⟨v,B,c⟩
  have H:2<n:=G;have e:=eM (i:=0) (n:=n) aC;have w:=eM (i:=1) (n:=n) aC;have E:=eM (i:=2) (n:=n) aC;rw [C]at c;simp +decide only [Sto.get_mk,e,w]at d B;refine PJ @aIa @e @w @eP @d @B ?_
  rcases c with ⟨A,rfl⟩ | ⟨A,id,g,rfl,b,N⟩
  ·have F:m=0:=by rw [<-AB m,A];rfl
   rw [pV,if_pos F];exact .und _ fB
  ·have F:m≠0:=fun h=>A (by subst h;rfl)
   rw [pV,if_neg F];have l:=Sto.get_lt b;rw [Sto.get_mk l]at b
   refine rC (g:=g) (cs:=gF m) (Nat.zero_le _) ?_ rfl (by simp) (fun x k=>(tu_int x (uR m x k)).2) fun j x y k O=>?_
   ·rw [Sto.get_mk l,Tr.get_set_ne _ _ aC];exact b
   ·rw [Nat.zero_add]at k
    rw [k]at O;cases O;exact .und _ (tu_int x (uR m x (List.mem_of_getElem? k))).1.und
theorem UL (m:Nat) (a:m<=1000):Abs.Returns Tryz.prog 79 [BJ m] (pV m):=by
 refine aF (L:=[eZ 123 [.nils,BJ m] (pV m)]) (elist_cons (bL (LS m a)) aE) aN (by kernel_rfl) Tryz.func79 Tryz.ntmps79 Tryz.results79 rfl rfl (aA (IW m).und aD) (pD (EP aC) fun x b=>(tu_int x (uR m x b)).1).und ?_;exact sK @eC
end
end Go.Proofs.YtdipddlhenoglaaGreat
