/-
  The reference of meanings: tasks and objects as they are defined.
-/
import Derived.Test.YtdipddlhenoglaaGreatNg
set_option linter.unusedVariables false
set_option linter.unusedSimpArgs false
namespace Go.Proofs.YtdipddlhenoglaaGreat
open Go.Abs Go Go.Abs.TryzF
noncomputable section
set_option maxRecDepth 10000
section
variable {ns fs mm cs os ts us is uu:AV}
theorem aFz {c:List AV} {ns g:AV} {a:List AV} {k no:Int} (d:Sl g a) (f:∀ x∈a,XM x) (e:Sl ns c) (h:nQ c k no a=true):TSl (TFn ns) g:=
 ⟨a,d,fun x b=>⟨f x b,by
  simp only [nQ,Bool.and_eq_true]at h
  rw [e.els];exact xZ (List.all_eq_true.1 h.2 x b)⟩⟩
def gT (ns:List AV) (a no:Int) (n:Int) (vs fs:List AV):Bool:=
 if n=0 then nQ ns a no fs&&eI a no 1 vs&&decide (0<(fs.length:Int)+vs.length)&&(fs.take (min (fs.length:Int) (max 0 ((fs.length:Int)-1+vs.length))).toNat).all (kB ns)
 else if n=1 then decide ((fs.length:Int)=0)&&decide ((vs.length:Int)=1)&&eI a no 1 vs
 else if n=2 then decide ((fs.length:Int)=0)&&decide ((vs.length:Int)=0) else if n=3 then decide ((fs.length:Int)=0)&&decide ((vs.length:Int)=0)
 else if n=4 then decide ((fs.length:Int)=0)&&decide ((vs.length:Int)=0) else false
abbrev TM (P W:AV) (e:List AV) (d no:Int):List AV->Option AV:=sg3 (fun a b c=>a=P/\b=W/\vO c) fun _ _ c=>.bool (gT e d no (c.fld 1).num (c.fld 2).els (c.fld 3).els)
abbrev LT (ns fs mm cs os ts us is uu:AV):List mE:=[ent 92 (tE (pg ns fs mm cs) (wd os ts us is uu) ns.els fs.els.length os.els.length),ent 94 (lD (pg ns fs mm cs) (wd os ts us is uu) fs.els.length os.els.length),ent 93 (wV (pg ns fs mm cs) ns)]
set_option maxHeartbeats 4000000 in
theorem aGa (h:RW ns fs mm cs os ts us is uu):Abs.Ok Tryz.prog 91 (TM (pg ns fs mm cs) (wd os ts us is uu) ns.els fs.els.length os.els.length):=ok3 fun a b x ⟨ea,eb,Y⟩=>by
 subst ea;subst eb;have R:=(tk_ob x Y).1;obtain ⟨o,q,u,w,y,A,B,C,E⟩:=h.cells;obtain ⟨_,_,v,g,rfl,⟨k,rfl⟩,⟨n,rfl⟩,T,Q⟩:=Y;have G:=(tu_vals _ T).2;have F:=(eE _ Q).2;have m:lD (pg ns fs mm cs) (wd os ts us is uu) fs.els.length os.els.length [pg ns fs mm cs,wd os ts us is uu,v,.int .i64 1]=some (.bool (eI fs.els.length os.els.length 1 v.els)):=LK ⟨rfl,rfl,T,_,rfl⟩;have l:tE (pg ns fs mm cs) (wd os ts us is uu) ns.els fs.els.length os.els.length [pg ns fs mm cs,wd os ts us is uu,g]=some (.bool (nQ ns.els fs.els.length os.els.length g.els)):=kI ⟨rfl,rfl,Q⟩;obtain ⟨e,f,ad⟩:=T;obtain ⟨d,c,U⟩:=Q;obtain ⟨xn,H,ac⟩:=h.ns;have ab:=f.2;have aa:=c.2;refine aF (L:=LT ns fs mm cs os ts us is uu) (elist_cons (EL h).ent (elist_cons (wU h).ent (elist_cons (OO h.ns h.fs h.mm h.cs).ent aE))) aL (by kernel_rfl) Tryz.func91 Tryz.ntmps91 Tryz.results91 rfl rfl (aA (cH _ h.pg).1.und (aA (mX _ h.wd).1.und (aA R.und aC))) aI ?_;show Wk _ _ _ _ _ (iR _ _ (fun _ r=>r=.bool (gT ns.els fs.els.length os.els.length n v.els g.els)) _);rw [f.els]at m ⊢;rw [c.els]at l ⊢;by_cases k0:n=0
 ·subst k0
  cases k1:nQ ns.els fs.els.length os.els.length d with
  | false=>refine LC @o @q @u @w @y @A @B @C @E @G @F c.lX @l @k1 ?_;simp +decide only [wT,gT,k1]
  | true=>
  cases k2:eI fs.els.length os.els.length 1 e with
  | false=>refine LD @o @q @u @w @y @A @B @C @E @G @F c.lX @l @k1 @m @k2 ?_;simp +decide only [wT,gT,k1,k2]
  | true=>
  have e1:d.length<=40:=by simp only [nQ,Bool.and_eq_true,decide_eq_true_eq]at k1;exact k1.1
  have I:e.length<=1:=by simp only [eI,Bool.and_eq_true,decide_eq_true_eq]at k2;omega
  have Z:IntKind.i64.wrap (((d.length:Nat):Int)+((e.length:Nat):Int))=((d.length:Nat):Int)+((e.length:Nat):Int):=IntWalk.i64_in _ aD;have w2:IntKind.i64.wrap (((d.length:Nat):Int)-1)=((d.length:Nat):Int)-1:=IntWalk.i64_in _ aD;have w3:IntKind.i64.wrap (((d.length:Nat):Int)-1+((e.length:Nat):Int))=((d.length:Nat):Int)-1+((e.length:Nat):Int):=IntWalk.i64_in _ aD;by_cases k3:((d.length:Nat):Int)+((e.length:Nat):Int) > 0
  ·have m1:(if ((d.length:Nat):Int)-1+((e.length:Nat):Int) > 0 then ((d.length:Nat):Int)-1+((e.length:Nat):Int) else 0)=((d.length:Nat):Int)-1+((e.length:Nat):Int):=by split<;>omega
   obtain ⟨M,J⟩:∃ M:Nat,(if ((d.length:Nat):Int)-1+((e.length:Nat):Int)<((d.length:Nat):Int) then ((d.length:Nat):Int)-1+((e.length:Nat):Int) else ((d.length:Nat):Int))=(M:Int):=⟨(min (d.length:Int) (max 0 ((d.length:Int)-1+e.length))).toNat,by split<;>omega⟩
   have O:M<=d.length:=by split at J<;>omega
   have N:(min (d.length:Int) (max 0 ((d.length:Int)-1+e.length))).toNat=M:=by split at J<;>omega
   have ho:wV (pg ns fs mm cs) ns [pg ns fs mm cs,g,.int .i64 (M:Nat)]=some (.bool ((d.take M).all (kB ns.els))):=by
    rw [wV,kI ⟨rfl,aFz c U H (by rw [<-H.els];exact k1),M,rfl,by rw [c.els];exact O⟩,c.els];rfl
   simp +contextual +decide (maxSteps:=1000000) only [↓ wP,wQ,tf,Nat.reduceAdd,wS,o,q,u,w,y,A,B,C,E,G,F,c.len,f.len,l,k1,m,k2,Z,w2,w3,k3,aHf,TW,m1,J,ho];simp +decide only [wT,gT,k1,k2,N,show (0<((d.length:Nat):Int)+((e.length:Nat):Int))=True from eq_true k3]
  ·refine aGj @o @q @u @w @y @A @B @C @E @G @F c.lX f.lX @l @k1 @m @k2 @Z @k3 ?_
   simp +decide only [wT,gT,k1,k2,show (0<((d.length:Nat):Int)+((e.length:Nat):Int))=False from eq_false k3]
 by_cases k1:n=1
 ·subst k1
  by_cases k2:((d.length:Nat):Int)=0
  ·by_cases k3:((e.length:Nat):Int)=1
   ·refine LD @o @q @u @w @y @A @B @C @E @G @F c.lX f.lX @k2 @k3 @m ?_;simp +decide only [wT,gT,k2,k3]
   ·refine GQ @o @q @u @w @y @A @B @C @E @G @F c.lX f.lX @k2 @k3 ?_;simp +decide only [wT,gT,k2,k3]
  ·refine yA @o @q @u @w @y @A @B @C @E @G @F c.lX @k2 ?_;simp +decide only [wT,gT,k2]
 by_cases k2:n=2∨n=3∨n=4
 ·rcases k2 with rfl | rfl | rfl
  all_goals
   by_cases k3:((d.length:Nat):Int)=0
   ·refine LC @o @q @u @w @y @A @B @C @E @G @F c.lX f.lX @k3 ?_;simp +decide only [wT,gT,k3]
   ·refine yA @o @q @u @w @y @A @B @C @E @G @F c.lX @k3 ?_;simp +decide only [wT,gT,k3]
 ·have I:n≠2:=by omega
  have V:n≠3:=by omega
  have X:n≠4:=by omega
  refine LD @o @q @u @w @y @A @B @C @E @G @F @k0 @k1 @I @V @X ?_;simp +decide only [wT,gT,k0,k1,I,V,X]
end
section
variable {ns fs mm cs os ts us is uu:AV}
def lJ (ns cs:List AV) (a no:Int) (k n:Int) (vs fs:List AV):Bool:=
 if k=6 then gT ns a no n vs fs
 else if k=5 then decide (n=0)&&decide ((vs.length:Int)=0)&&decide (0<(fs.length:Int))&&nQ ns a no fs&&(fs.take fs.length).all (kB ns)&&decide (((eF ns ((fs.getD 0 .top).fld 0).num).fld 0).num=26)
 else if (fs.length:Int)=0 then
  (if k=1 then inR n 0 ((cs.length:Int)-1)&&decide ((vs.length:Int)=((cs.getD n.toNat .top).fld 1).num)&&eI a no 3 vs
  else if k=2 then inR n 0 ((ns.length:Int)-1)&&decide (((eF ns n).fld 0).num=5)&&eI a no 30 vs
  else if k=3 then decide (n=0)&&decide ((vs.length:Int)=1)&&eI a no 1 vs
  else if k=4 then decide (n=0)&&eI a no 4 vs
  else false)
 else false
abbrev aQn (P W:AV) (f e:List AV) (d no:Int):List AV->Option AV:=sg3 (fun a b c=>a=P/\b=W/\vO c) fun _ _ c=>.bool (lJ f e d no (c.fld 0).num (c.fld 1).num (c.fld 2).els (c.fld 3).els)
set_option maxHeartbeats 8000000 in
theorem TN (h:RW ns fs mm cs os ts us is uu):Abs.Ok Tryz.prog 57 (aQn (pg ns fs mm cs) (wd os ts us is uu) ns.els cs.els fs.els.length os.els.length):=ok3 fun a b x ⟨ea,eb,hx⟩=>by
 subst ea;subst eb;have aj:=(tk_ob x hx).1;obtain ⟨A,B,C,E,F,G,H,I,J⟩:=h.cells;obtain ⟨_,_,v,g,rfl,⟨k,rfl⟩,⟨n,rfl⟩,hv,hg⟩:=hx;have ht:TM (pg ns fs mm cs) (wd os ts us is uu) ns.els fs.els.length os.els.length [pg ns fs mm cs,wd os ts us is uu,.agg [.int .i64 k,.int .i64 n,v,g]]=some (.bool (gT ns.els fs.els.length os.els.length n v.els g.els)):=kI ⟨rfl,rfl,_,_,_,_,rfl,⟨_,rfl⟩,⟨_,rfl⟩,hv,hg⟩;have N:=(tu_vals _ hv).2;have M:=(eE _ hg).2;have R:∀ {m:Int},lD (pg ns fs mm cs) (wd os ts us is uu) fs.els.length os.els.length [pg ns fs mm cs,wd os ts us is uu,v,.int .i64 m]=some (.bool (eI fs.els.length os.els.length m v.els)):=LK ⟨rfl,rfl,hv,_,rfl⟩;have T:tE (pg ns fs mm cs) (wd os ts us is uu) ns.els fs.els.length os.els.length [pg ns fs mm cs,wd os ts us is uu,g]=some (.bool (nQ ns.els fs.els.length os.els.length g.els)):=kI ⟨rfl,rfl,hg⟩;obtain ⟨xv,e,ao⟩:=hv;obtain ⟨O,c,ae⟩:=hg;obtain ⟨xn,l,ac⟩:=h.ns;obtain ⟨xc,u,ai⟩:=h.cs;have w1:=bU l.2;have w2:=bU u.2
 refine aF (L:=[ent 55 gB,ent 91 (TM (pg ns fs mm cs) (wd os ts us is uu) ns.els fs.els.length os.els.length),ent 92 (tE (pg ns fs mm cs) (wd os ts us is uu) ns.els fs.els.length os.els.length),ent 94 (lD (pg ns fs mm cs) (wd os ts us is uu) fs.els.length os.els.length),ent 93 (wV (pg ns fs mm cs) ns)])
  (elist_cons rIn6_ok.ent (elist_cons (aGa h).ent (elist_cons (EL h).ent (elist_cons (wU h).ent (elist_cons (OO h.ns h.fs h.mm h.cs).ent aE))))) (fun r=>(bif Nat.beq r 4 then [20,29] else bif Nat.beq r 9 then [6,25] else [],[])) (by kernel_rfl) Tryz.func57 Tryz.ntmps57 Tryz.results57 rfl rfl (aA (cH _ h.pg).1.und (aA (mX _ h.wd).1.und (aA aj.und aC))) aI ?_
 show Wk _ _ _ _ _ (iR _ _ (fun _ r=>r=.bool (lJ ns.els cs.els fs.els.length os.els.length k n v.els g.els)) _);rw [e.els]at R ht ⊢;rw [c.els]at T ht ⊢;by_cases k6:k=6
 ·subst k6
  refine BW @A @B @C @E @F @G @H @I @J @N @M @ht ?_;simp +decide only [wT,AV.fld,AV.num,lJ]
 by_cases k5:k=5
 ·subst k5
  by_cases o:n=0
  ·by_cases w:((xv.length:Nat):Int)=0
   ·by_cases f:((O.length:Nat):Int) > 0
    ·have X:(0<((O.length:Nat):Int))=True:=eq_true f
     cases U:nQ ns.els fs.els.length os.els.length O with
     | false=>refine aGk @A @B @C @E @F @G @H @I @J @N @M c.lX c.sX e.lX e.sX @f @o @w @T @U ?_;simp +decide only [wT,AV.fld,AV.num,lJ,U]
     | true=>
       have ho:wV (pg ns fs mm cs) ns [pg ns fs mm cs,g,.int .i64 (O.length:Nat)]=some (.bool ((O.take O.length).all (kB ns.els))):=by
        rw [wV,kI ⟨rfl,aFz c ae l (by rw [<-l.els];exact U),O.length,rfl,by rw [c.els];exact Nat.le_refl _⟩,c.els];rfl
       cases g5:(O.take O.length).all (kB ns.els) with
       | false=>simp +contextual +decide (maxSteps:=1000000) only [↓ wP,wQ,tf,Nat.reduceAdd,wS,A,B,C,E,F,G,H,I,J,N,M,c.len,c.stab,e.len,e.stab,f,o,w,T,U,ho,g5];simp +decide only [wT,AV.fld,AV.num,lJ,U,g5]
       | true=>
         have g0:inR 0 0 ((O.length:Int)-1)=true:=by simp only [inR,Bool.and_eq_true,decide_eq_true_eq];omega
         obtain ⟨y,hD,al,Z,Q,ad,_,_⟩:=mW tk_fr ae g0;have V:=U;simp only [nQ,Bool.and_eq_true]at V;have aa:=xZ (List.all_eq_true.1 V.2 y al);obtain ⟨_,_,_,rfl,⟨m,rfl⟩,q1,q2⟩:=hD;have e1:=(tu_vals _ q1).2;have e2:=(tu_vals _ q2).2;rw [l.els]at aa;obtain ⟨z,ah,_,hz,ab,an,_,_⟩:=mW tk_node ac aa;obtain ⟨_,_,_,_,rfl,⟨op,rfl⟩,⟨m',rfl⟩,q3,q4⟩:=ah;have e3:=(aT _ q3).2;have e4:=(fG _ q4).2;have Y:∀ {q:IntKind} {d:Option AV},vP (some 4) xn (.int q m) d=some (.pf (.agg [.int .i64 op,.int .i64 m',_,_])):=ab;simp +contextual +decide (maxSteps:=1000000) only [↓ wP,wQ,tf,Nat.reduceAdd,wS,A,B,C,E,F,G,H,I,J,N,M,c.len,c.stab,c.idx,e.len,e.stab,f,o,w,T,U,ho,g5,Q,l.idx,Y]
         have af:nQ xn fs.els.length os.els.length O=true:=by rw [<-l.els];exact U
         have ag:(O.take O.length).all (kB xn)=true:=by rw [<-l.els];exact g5
         have ak:O.getD 0 .top=.agg [.int .i64 m,_,_]:=Z;have am:xn.getD m.toNat .top=.agg [.int .i64 op,.int .i64 m',_,_]:=hz;simp +decide only [wT,AV.fld,AV.num,lJ,X,w,af,ag,l.els,eF,ak,am]
    ·have X:(0<((O.length:Nat):Int))=False:=eq_false f
     refine EP @A @B @C @E @F @G @H @I @J @N @M c.lX c.sX e.lX e.sX @f @o @w ?_;simp +decide only [wT,AV.fld,AV.num,lJ,X]
   ·refine GQ @A @B @C @E @F @G @H @I @J @N @M e.lX e.sX @o @w ?_;simp +decide only [wT,AV.fld,AV.num,lJ,w]
  ·refine BW @A @B @C @E @F @G @H @I @J @N @M @o ?_;simp +decide only [wT,AV.fld,AV.num,lJ,o]
 by_cases f:((O.length:Nat):Int)=0
 ·by_cases k1:k=1
  ·subst k1
   cases o:inR n 0 ((xc.length:Int)-1) with
   | false=>refine EP @A @B @C @E @F @G @H @I @J @N @M c.lX @f u.lX u.sX @w2 @aH @o ?_;simp +decide only [wT,AV.fld,AV.num,lJ,u.els,f,o]
   | true=>
     obtain ⟨y,hD,_,Z,Q,ad,_,_⟩:=mW tk_con ai o;obtain ⟨_,_,rfl,⟨b,rfl,_⟩,⟨m,rfl⟩⟩:=hD;by_cases w:((xv.length:Nat):Int)=m
     ·simp +contextual +decide (maxSteps:=1000000) only [↓ wP,wQ,tf,Nat.reduceAdd,wS,A,B,C,E,F,G,H,I,J,N,M,c.len,f,u.len,u.idx,u.stab,w2,aH,o,Q,e.len,e.stab,w,R]
      simp +decide only [wT,AV.fld,AV.num,lJ,u.els,Z,f,o,w]
     ·simp +contextual +decide (maxSteps:=1000000) only [↓ wP,wQ,tf,Nat.reduceAdd,wS,A,B,C,E,F,G,H,I,J,N,M,c.len,f,u.len,u.idx,u.stab,w2,aH,o,Q,e.len,e.stab,w]
      simp +decide only [wT,AV.fld,AV.num,lJ,u.els,Z,f,o,w]
  by_cases k2:k=2
  ·subst k2
   cases o:inR n 0 ((xn.length:Int)-1) with
   | false=>refine aLx @A @B @C @E @F @G @H @I @J @N @M c.lX @f l.lX @w1 @aH @o ?_;simp +decide only [wT,AV.fld,AV.num,lJ,l.els,f,o]
   | true=>
     obtain ⟨y,hD,_,Z,Q,ad,_,_⟩:=mW tk_node ac o;obtain ⟨_,_,_,_,rfl,⟨op,rfl⟩,⟨m,rfl⟩,q1,q2⟩:=hD;have e1:=(aT _ q1).2;have e2:=(fG _ q2).2;by_cases w:op=5
     ·simp +contextual +decide (maxSteps:=1000000) only [↓ wP,wQ,tf,Nat.reduceAdd,wS,A,B,C,E,F,G,H,I,J,N,M,c.len,f,l.len,l.idx,w1,aH,o,Q,w,R]
      simp +decide only [wT,AV.fld,AV.num,lJ,l.els,eF,Z,f,o,w]
     ·refine aGk @A @B @C @E @F @G @H @I @J @N @M c.lX @f l.lX l.iX @w1 @aH @o @Q @w ?_
      simp +decide only [wT,AV.fld,AV.num,lJ,l.els,eF,Z,f,o,w]
  by_cases k3:k=3
  ·subst k3
   by_cases o:n=0
   ·by_cases w:((xv.length:Nat):Int)=1
    ·refine aLx @A @B @C @E @F @G @H @I @J @N @M c.lX @f e.lX @o @w @R ?_;simp +decide only [wT,AV.fld,AV.num,lJ,f,w]
    ·refine LD @A @B @C @E @F @G @H @I @J @N @M c.lX @f e.lX @o @w ?_;simp +decide only [wT,AV.fld,AV.num,lJ,f,w]
   ·refine LC @A @B @C @E @F @G @H @I @J @N @M c.lX @f @o ?_;simp +decide only [wT,AV.fld,AV.num,lJ,f,o]
  by_cases k4:k=4
  ·subst k4
   by_cases o:n=0
   ·refine GQ @A @B @C @E @F @G @H @I @J @N @M c.lX @f @o @R ?_;simp +decide only [wT,AV.fld,AV.num,lJ,f]
   ·refine LC @A @B @C @E @F @G @H @I @J @N @M c.lX @f @o ?_;simp +decide only [wT,AV.fld,AV.num,lJ,f,o]
  refine aGj @A @B @C @E @F @G @H @I @J @N @M c.lX @f @k1 @k2 @k3 @k4 @k5 @k6 ?_;simp +decide only [wT,AV.fld,AV.num,lJ,k1,k2,k3,k4,k5,k6,f]
 ·refine GQ @A @B @C @E @F @G @H @I @J @N @M c.lX @f @k5 @k6 ?_
  simp +decide only [wT,AV.fld,AV.num,lJ,k5,k6,f]
end
def jJ (a:Int) (xs:List AV):Bool:=decide ((xs.length:Int)<=a)&&xs.all fun x=>pO x.num
abbrev TO:List AV->Option AV:=sB (fun a b=>fZ a/\cS b) fun a b=>.bool (jJ b.num a.els)
theorem rInts_ok:Abs.Ok Tryz.prog 54 TO:=ok2 fun a b ⟨J,M⟩=>by
 obtain ⟨c,rfl⟩:=M;have G:=(aT a J).1;obtain ⟨xs,k,H⟩:=J;have Q:=k.2;refine aF (L:=[ent 55 gB]) (elist_cons rIn6_ok.ent aE) aL (by kernel_rfl) Tryz.func54 Tryz.ntmps54 Tryz.results54 rfl rfl (aA G.und (aA aS aC)) aI ?_;rw [k.els,show (AV.int .i64 c).num=c from rfl];refine AC ?_;refine aM (fun i e=>∃ t n low o,e=⟨27,none,54,t,[],⟨n,low,o⟩,.no⟩/\t.val 0=a/\t.val 1=.int .i64 c/\t.val 5=.int .i64 (i:Nat)/\0<=n/\i<=xs.length/\jJ c xs=(decide ((xs.length:Int)<=c)&&(xs.drop i).all fun x=>pO x.num)) (fun i=>xs.length-i) 0 ⟨_,_,_,_,rfl,aG,aG,eT,aD,Nat.zero_le _,rfl⟩ ?_;rintro i _ ⟨t,n,low,o,rfl,w,A,C,V,O,f⟩
 rcases Nat.lt_or_ge i xs.length with u | F
 ·obtain ⟨y,m,U,T,N,r,R,E⟩:=bI (fun x h=>tu_int.len h) H Q u
  rw [N,List.all_cons]at f
  have v:=fun {d:Option AV}=>tu_int.pf m (d:=d)
  obtain ⟨z,rfl⟩:=m;by_cases I:((i:Nat):Int)<=c
  ·cases B:pO z with
   | false=>
     rw [show (AV.int .i64 z).num=z from rfl,B,Bool.false_and,Bool.and_false]at f;have l:inR z (-1000000000) 1000000000=false:=B;exact vN @w @A @C k.lX k.iX @r @E @v @I @aH @l @f
   | true=>
     rw [show (AV.int .i64 z).num=z from rfl,B,Bool.true_and]at f;have l:inR z (-1000000000) 1000000000=true:=B;refine BW @w @A @C k.lX k.iX @r @E @v @I @aH @l @R ?_;exact ⟨i+1,by show _-_<_-_;omega,_,_,_,_,rfl,aN @w,aN @A,aG,aD,u,f⟩
  ·have q:(((xs.length:Nat):Int)<=c)=False:=eq_false aD
   rw [decide_eq_false (fun h=>(q ▸ h:False)),Bool.false_and]at f;exact az8 @w @A @C k.lX @E @I @q @f
 ·obtain rfl:i=xs.length:=Nat.le_antisymm O F
  rw [List.drop_length,List.all_nil,Bool.and_true]at f;exact RD @w @A @C k.lX @bG @f
abbrev jK:List AV->Option AV:=sB (fun a b=>fZ a/\cS b) fun a b=>.bool (a.els.any fun x=>decide (x.num=b.num))
theorem rlisted_ok:Abs.Ok Tryz.prog 90 jK:=ok2 fun a b ⟨F,H⟩=>by
 obtain ⟨m,rfl⟩:=H;have A:=(aT a F).1;obtain ⟨xs,f,B⟩:=F;have M:=f.2;refine aF (L:=[]) aE aL (by kernel_rfl) Tryz.func90 Tryz.ntmps90 Tryz.results90 rfl rfl (aA A.und (aA aS aC)) aI ?_;rw [f.els,show (AV.int .i64 m).num=m from rfl];refine AC ?_;refine aM (fun i e=>∃ t n low o,e=⟨18,none,90,t,[],⟨n,low,o⟩,.no⟩/\t.val 0=a/\t.val 1=.int .i64 m/\t.val 5=.int .i64 (i:Nat)/\0<=n/\i<=xs.length/\(xs.any fun x=>decide (x.num=m))=((xs.drop i).any fun x=>decide (x.num=m))) (fun i=>xs.length-i) 0 ⟨_,_,_,_,rfl,aG,aG,eT,aD,Nat.zero_le _,rfl⟩ ?_;rintro i _ ⟨t,n,low,o,rfl,u,C,E,R,J,c⟩
 rcases Nat.lt_or_ge i xs.length with q | v
 ·obtain ⟨y,k,Q,O,I,l,N,G⟩:=bI (fun x h=>tu_int.len h) B M q
  rw [I,List.any_cons]at c
  have w:=fun {d:Option AV}=>tu_int.pf k (d:=d)
  obtain ⟨z,rfl⟩:=k;by_cases r:z=m
  ·rw [show (AV.int .i64 z).num=z from rfl,decide_eq_true r,Bool.true_or]at c
   exact az9 @u @C @E f.lX f.iX @l @G @r @c
  ·rw [show (AV.int .i64 z).num=z from rfl,decide_eq_false r,Bool.false_or]at c
   refine wW @u @C @E f.lX f.iX @l @G @w @r @N ?_;exact ⟨i+1,by show _-_<_-_;omega,_,_,_,_,rfl,aN @u,aN @C,aG,aD,q,c⟩
 ·obtain rfl:i=xs.length:=Nat.le_antisymm J v
  rw [List.drop_length,List.any_nil]at c;exact ND @u @E f.lX @bG @c
def mV (os:List AV):List AV->List AV->Bool
 | _,[]=>true
 | pre,x::l=>iO os x.num && !(pre.any fun y=>decide (y.num=x.num))&&mV os (pre++[x]) l
def iI (os ts:List AV):Bool:=decide ((ts.length:Int)=(dG os:Nat))&&mV os [] ts
theorem ON {xs:List AV} {x:AV} {i:Nat} (h:xs[i]?=some x):dG (xs.take (i+1))=dG (xs.take i)+(if (x.fld 0).num=6 then 1 else 0):=by
 rw [List.take_add_one,h,dG,dG,List.filter_append,List.length_append];by_cases a:(x.fld 0).num=6<;>simp [a]
theorem qN (xs:List AV) (i:Nat):dG xs=dG (xs.take i)+dG (xs.drop i):=by rw [dG,dG,dG,<-List.length_append,<-List.filter_append,List.take_append_drop]
theorem aAk (xs:List AV):dG xs<=xs.length:=List.length_filter_le _ _
abbrev KU:List AV->Option AV:=uS NE fun w=>.bool (iI (w.fld 0).els (w.fld 1).els)
set_option maxHeartbeats 4000000 in
theorem rtasks_ok:Abs.Ok Tryz.prog 56 KU:=AJ fun w Q=>by
 have ag:=(mX w Q).1;obtain ⟨os,ts,us,is,uu,rfl,ho,ht,hu,U,hv⟩:=Q;have c1:=(lK _ ho).2;have c2:=(aT _ ht).2;have c3:=(dY _ hu).2;have c4:=(aT _ U).2;have c5:=(tu_int _ hv).2;obtain ⟨xs,a,Y⟩:=ho;obtain ⟨c,I,R⟩:=ht;have hl:=a.2;have ad:=I.2;have w1:=bU a.2;refine aF (L:=[ent 55 gB,ent 90 jK]) (elist_cons rIn6_ok.ent (elist_cons rlisted_ok.ent aE)) aL (by kernel_rfl) Tryz.func56 Tryz.ntmps56 Tryz.results56 rfl rfl (aA ag.und aC) aI ?_;show Wk _ _ _ _ _ (iR _ _ (fun _ r=>r=.bool (iI os.els ts.els)) _);rw [a.els,I.els];refine LB @c1 @c2 @c3 @c4 @c5 ?_;refine aM (fun i e=>∃ t n low o,e=⟨62,none,56,t,[],⟨n,low,o⟩,.no⟩/\t.val 1=.ptr 0 0 0/\t.val 3=.int .i64 ((dG (xs.take i):Nat):Int)/\t.val 4=.int .i64 (i:Nat)/\o.get 0=some (aR 0 [os,ts,us,is,uu])/\1<=n/\i<=xs.length/\dG xs=dG (xs.take i)+dG (xs.drop i)) (fun i=>xs.length-i) 0 ⟨_,_,_,_,rfl,aG,eT,eT,aG,aD,Nat.zero_le _,qN _ _⟩ ?_;rintro i _ ⟨t,n,low,o,rfl,B,C,t4,q,hn,U,l⟩;have H:=dQ (show 0<n by omega)
 rcases Nat.lt_or_ge i xs.length with A | M
 ·obtain ⟨y,E,hm,hg,hd,f,Q,hc⟩:=bI (fun x h=>tk_ob.len h) Y hl A
  have G:=fun {d:Option AV}=>tk_ob.pf E (d:=d)
  have T:=ON hg;have ac:=aAk (xs.take i);rw [List.length_take]at ac;obtain ⟨_,_,v,g,rfl,⟨k,rfl⟩,⟨m,rfl⟩,O,J⟩:=E;have cv:=(tu_vals _ O).2;have cg:=(eE _ J).2
  have ah:IntKind.i64.wrap (((dG (xs.take i):Nat):Int)+1)=((dG (xs.take i)+1:Nat):Int):=by rw [IntWalk.i64_in _ aD];rfl
  by_cases k6:k=6
  ·rw [show ((AV.agg [.int .i64 k,.int .i64 m,v,g]).fld 0).num=k from rfl,if_pos k6]at T
   refine BW @B @C @t4 @q @H a.lX a.iX @f @hc @k6 @Q @ah ?_;exact ⟨i+1,by show _-_<_-_;omega,_,_,_,_,rfl,aN @B,aN @T,aG,by simp +decide only [q],aD,A,qN _ _⟩
  ·rw [show ((AV.agg [.int .i64 k,.int .i64 m,v,g]).fld 0).num=k from rfl,if_neg k6]at T
   simp only [Nat.add_zero]at T;refine wW @B @t4 @q @H a.lX a.iX @f @hc @k6 @Q ?_;exact ⟨i+1,by show _-_<_-_;omega,_,_,_,_,rfl,aN @B,av2 @C @T,aG,by simp +decide only [q],aD,A,qN _ _⟩
 ·obtain rfl:i=xs.length:=Nat.le_antisymm U M
  rw [List.take_length]at C;clear l
  by_cases k1:((c.length:Nat):Int)=((dG xs:Nat):Int)
  ·have aj:c.length=dG xs:=by omega
   have N:iI xs c=mV xs [] c:=by rw [iI,decide_eq_true k1,Bool.true_and]
   rw [N];refine ap9 @B @C @t4 @q @H a.lX @bG I.lX @k1 ?_;refine aM (fun i e=>∃ t n low o,e=⟨62,none,56,t,[],⟨n,low,o⟩,.no⟩/\t.val 1=.ptr 0 0 0/\t.val 3=.int .i64 ((dG xs:Nat):Int)/\t.val 5=.int .i64 (i:Nat)/\o.get 0=some (aR 0 [os,ts,us,is,uu])/\1<=n/\i<=c.length/\mV xs [] c=mV xs (c.take i) (c.drop i)) (fun i=>c.length-i) 0 ⟨_,_,_,_,rfl,aN @B,aN @C,eT,by simp +decide only [q],aD,Nat.zero_le _,rfl⟩ ?_;rintro i _ ⟨t,n,low,o,rfl,B,C,Z,q,hn,U,l⟩;have H:=dQ (show 0<n by omega)
   rcases Nat.lt_or_ge i c.length with A | M
   ·obtain ⟨y,E,hm,hg,hd,f,Q,hc⟩:=bI (fun x h=>tu_int.len h) R ad A
    have G:=fun {d:Option AV}=>tu_int.pf E (d:=d)
    have u:(((i:Nat):Int)<((dG xs:Nat):Int))=True:=eq_true aD;obtain ⟨b,hb,X⟩:=I.upto (k:=1) (fun x hm=>tu_int.len (R x hm)) (n:=((i:Nat):Int)) aD aD;rw [Int.toNat_natCast]at hb
    have af:c.take (i+1)=c.take i++[y]:=by rw [List.take_add_one,hg];rfl
    obtain ⟨z,rfl⟩:=E
    have V:jK [b,.int .i64 z]=some (.bool ((c.take i).any fun x=>decide (x.num=z))):=by
     rw [jK,sg2_eq ⟨⟨_,hb,fun x hx=>R x (List.mem_of_mem_take hx)⟩,_,rfl⟩,hb.els];rfl
    rw [hd,mV,show (AV.int .i64 z).num=z from rfl,<-af]at l
    cases k2:inR z 0 ((xs.length:Int)-1) with
    | false=>
      rw [iO,k2,Bool.false_and,Bool.false_and,Bool.false_and]at l;exact GS @B @C @Z @q @H a.lX I.iX @f @u @G @w1 @aH @k2 @l
    | true=>
      obtain ⟨o',aa,_,ae,F,ai,_,_⟩:=mW tk_ob Y k2;obtain ⟨_,_,v,g,rfl,⟨k,rfl⟩,⟨m,rfl⟩,O,J⟩:=aa;have cv:=(tu_vals _ O).2;have cg:=(eE _ J).2
      have ab:iO xs z=decide (k=6):=by rw [iO,k2,Bool.true_and,ae];rfl
      rw [ab]at l;by_cases k6:k=6
      ·rw [decide_eq_true k6,Bool.true_and]at l
       cases k3:(c.take i).any fun x=>decide (x.num=z) with
       | true=>
         rw [k3,Bool.not_true,Bool.false_and]at l;exact aQp @B @C @Z @q @H a.lX a.iX I.iX @f @F @u @G @w1 @aH @k2 @k6 @X @V @k3 @l
       | false=>
         rw [k3,Bool.not_false,Bool.true_and]at l;refine aGk @B @C @Z @q @H a.lX a.iX I.iX @f @F @u @G @w1 @aH @k2 @k6 @X @V @k3 @Q ?_;exact ⟨i+1,by show _-_<_-_;omega,_,_,_,_,rfl,aN @B,aN @C,aG,by simp +decide only [q],aD,A,l⟩
      ·rw [decide_eq_false k6,Bool.false_and,Bool.false_and]at l
       exact aGl @B @C @Z @q @H a.lX a.iX I.iX @f @F @u @G @w1 @aH @k2 @k6 @l
   ·obtain rfl:i=c.length:=Nat.le_antisymm U M
    have u:(((c.length:Nat):Int)<((dG xs:Nat):Int))=False:=eq_false aD;rw [List.drop_length,mV]at l;exact az4 @C @Z @u @l
  ·refine ap9 @B @C @t4 @q @H a.lX @bG I.lX @k1 ?_
   rw [iI,decide_eq_false k1];rfl
def TP (ns cs:List AV) (a no:Int) (o:AV):Bool:=lJ ns cs a no (o.fld 0).num (o.fld 1).num (o.fld 2).els (o.fld 3).els
def nU (ns cs:List AV) (a:Int) (os ts us is:List AV) (n:Int):Bool:=
 decide ((os.length:Int)<=120)&&(decide ((us.length:Int)<=100)&&(jJ 50 is&&(inR n 0 1000000000&&(iI os ts&&(os.all (TP ns cs a os.length)&&us.all AH)))))
theorem aGb {a b:AV} (k:gC a) (l:NE b):∃ ns fs mm cs os ts us is uu,a=pg ns fs mm cs/\b=wd os ts us is uu/\RW ns fs mm cs os ts us is uu:=by
 obtain ⟨_,_,_,_,rfl,a1,a2,a3,a4⟩:=k;obtain ⟨_,_,_,_,_,rfl,c,d,e,f,h⟩:=l;exact ⟨_,_,_,_,_,_,_,_,_,rfl,rfl,a1,a2,a3,a4,c,d,e,f,h⟩
abbrev xW:List AV->Option AV:=sB (fun a b=>gC a/\NE b) fun a b=>.bool (nU (a.fld 0).els (a.fld 3).els (a.fld 1).els.length (b.fld 0).els (b.fld 1).els (b.fld 2).els (b.fld 3).els (b.fld 4).num)
set_option maxHeartbeats 8000000 in
theorem rWorld_ok:Abs.Ok Tryz.prog 19 xW:=ok2 fun a b ⟨ha,hb⟩=>by
 obtain ⟨ns,fs,mm,cs,os,ts,us,is,uu,rfl,rfl,h⟩:=aGb ha hb;obtain ⟨I,J,M,N,O,Q,R,T,U⟩:=h.cells;obtain ⟨m,hm⟩:=h.uu;have C:TO [is,.int .i64 50]=some (.bool (jJ 50 is.els)):=sg2_eq ⟨h.is,_,rfl⟩;have aa:KU [wd os ts us is uu]=some (.bool (iI os.els ts.els)):=cI h.wd;obtain ⟨E,k,ae⟩:=h.os;obtain ⟨F,l,af⟩:=h.us
 refine aF (L:=[ent 55 gB,ent 54 TO,ent 56 KU,ent 57 (aQn (pg ns fs mm cs) (wd os ts us is uu) ns.els cs.els fs.els.length os.els.length)]) (elist_cons rIn6_ok.ent (elist_cons rInts_ok.ent (elist_cons rtasks_ok.ent (elist_cons (TN h).ent aE))))
  (fun r=>(bif Nat.beq r 6 then [7] else [],[])) (by kernel_rfl) Tryz.func19 Tryz.ntmps19 Tryz.results19 rfl rfl (aA (cH _ h.pg).1.und (aA (mX _ h.wd).1.und aC)) aI ?_
 subst hm;show Wk _ _ _ _ _ (iR _ _ (fun _ r=>r=.bool (nU ns.els cs.els fs.els.length os.els ts.els us.els is.els m)) _);have c:nU ns.els cs.els fs.els.length os.els ts.els us.els is.els m=(decide ((os.els.length:Int)<=120)&&(decide ((us.els.length:Int)<=100)&&(jJ 50 is.els&&(inR m 0 1000000000&&(iI os.els ts.els&&(os.els.all (TP ns.els cs.els fs.els.length os.els.length)&&us.els.all AH)))))):=rfl;generalize nU ns.els cs.els fs.els.length os.els ts.els us.els is.els m=W at *;rw [k.els,l.els]at c;have ab:=k.2;have ac:=l.2;by_cases k1:((E.length:Nat):Int) > 120
 ·rw [decide_eq_false (show ¬ ((E.length:Nat):Int)<=120 by omega),Bool.false_and]at c
  exact vN @I @J @M @N @O @Q @R @T @U k.lX @k1 @c
 by_cases k2:((F.length:Nat):Int) > 100
 ·rw [decide_eq_false (show ¬ ((F.length:Nat):Int)<=100 by omega),Bool.false_and,Bool.and_false]at c
  exact GS @I @J @M @N @O @Q @R @T @U k.lX l.lX @k1 @k2 @c
 rw [decide_eq_true (show ((E.length:Nat):Int)<=120 by omega),Bool.true_and,decide_eq_true (show ((F.length:Nat):Int)<=100 by omega),Bool.true_and]at c
 cases k3:jJ 50 is.els with
 | false=>
   rw [k3,Bool.false_and]at c;exact aQo @I @J @M @N @O @Q @R @T @U k.lX l.lX @k1 @k2 @C @k3 @c
 | true=>
 rw [k3,Bool.true_and]at c
 cases k4:inR m 0 1000000000 with
 | false=>
   rw [k4,Bool.false_and]at c;exact aGm @I @J @M @N @O @Q @R @T @U k.lX l.lX @k1 @k2 @C @k3 @aH @k4 @c
 | true=>
 rw [k4,Bool.true_and]at c
 cases k5:iI os.els ts.els with
 | false=>
   rw [<-k.els,k5,Bool.false_and]at c;exact aQp @I @J @M @N @O @Q @R @T @U k.lX l.lX @k1 @k2 @C @k3 @aH @k4 @aa @k5 @c
 | true=>
 rw [<-k.els,k5,Bool.true_and,k.els]at c;refine aGj @I @J @M @N @O @Q @R @T @U k.lX l.lX @k1 @k2 @C @k3 @aH @k4 @aa @k5 ?_;refine aM (fun i e=>∃ t n low o,e=⟨75,none,19,t,[],⟨n,low,o⟩,.no⟩/\t.val 2=.ptr 0 0 0/\t.val 3=.ptr 1 0 0/\t.val 5=.int .i64 (i:Nat)/\o.get 0=some (aR 0 [ns,fs,mm,cs])/\o.get 1=some (aR 0 [os,ts,us,is,.int .i64 m])/\2<=n/\i<=E.length/\W=((E.drop i).all (TP ns.els cs.els fs.els.length E.length)&&F.all AH)) (fun i=>E.length-i) 0 ⟨_,_,_,_,rfl,aG,aG,eT,qC,aG,aD,Nat.zero_le _,c⟩ ?_;rintro i _ ⟨t,n,low,o,rfl,Y,A,t5,V,u,hn,hi,f⟩;have f0:=dQ (show 0<n by omega);have G:=dQ (show 1<n by omega)
 rcases Nat.lt_or_ge i E.length with w | H
 ·obtain ⟨y,B,hm,hg,hd,q,hw,X⟩:=bI (fun x h=>tk_ob.len h) ae ab w
  rw [hd,List.all_cons,Bool.and_assoc]at f
  have Z:=fun {d:Option AV}=>tk_ob.pf B (d:=d)
  have hv:aQn (pg ns fs mm cs) (wd os ts us is (.int .i64 m)) ns.els cs.els fs.els.length os.els.length [pg ns fs mm cs,wd os ts us is (.int .i64 m),y]=some (.bool (TP ns.els cs.els fs.els.length os.els.length y)):=kI ⟨rfl,rfl,B⟩;rw [<-k.els]at f
  cases hp:TP ns.els cs.els fs.els.length os.els.length y with
  | false=>
    rw [hp,Bool.false_and]at f;exact aAr @Y @A @t5 @V @u @f0 @G k.lX k.iX @q @X @Z @hv @hp @f
  | true=>
    rw [hp,Bool.true_and]at f;refine GQ @Y @A @t5 @V @u @f0 @G k.lX k.iX @q @X @Z @hv @hp @hw ?_;rw [k.els]at f;exact ⟨i+1,by show _-_<_-_;omega,_,_,_,_,rfl,aN @Y,aN @A,aG,by simp +decide only [V],by simp +decide only [u],aD,w,f⟩
 ·obtain rfl:i=E.length:=Nat.le_antisymm hi H
  rw [List.drop_length,List.all_nil,Bool.true_and]at f;refine XK @A @t5 @u @G k.lX @bG ?_;have ad:=f;clear f;refine aM (fun i e=>∃ t n low o,e=⟨75,none,19,t,[],⟨n,low,o⟩,.no⟩/\t.val 2=.ptr 0 0 0/\t.val 3=.ptr 1 0 0/\t.val 6=.int .i64 (i:Nat)/\o.get 0=some (aR 0 [ns,fs,mm,cs])/\o.get 1=some (aR 0 [os,ts,us,is,.int .i64 m])/\2<=n/\i<=F.length/\W=(F.drop i).all AH) (fun i=>F.length-i) 0 ⟨_,_,_,_,rfl,aN @Y,aN @A,eT,by simp +decide only [V],by simp +decide only [u],aD,Nat.zero_le _,ad⟩ ?_;rintro i _ ⟨t,n,low,o,rfl,Y,A,t6,V,u,hn,hi,f⟩;have f0:=dQ (show 0<n by omega);have G:=dQ (show 1<n by omega)
  rcases Nat.lt_or_ge i F.length with w | H
  ·obtain ⟨y,B,hm,hg,hd,q,hw,X⟩:=bI (fun x h=>tk_out.len h) af ac w
   rw [hd,List.all_cons]at f;obtain ⟨_,_,rfl,⟨p,rfl⟩,⟨v,rfl⟩⟩:=B;have he:AH (.agg [.int .i64 p,.int .i64 v])=(inR p 0 3&&inR v (-1000000000) 1000000000):=rfl;rw [he]at f
   cases k6:inR p 0 3 with
   | false=>
     rw [k6,Bool.false_and,Bool.false_and]at f;exact LE @A @t6 @u @G l.lX l.iX @q @X @aH @k6 @f
   | true=>
     cases k7:inR v (-1000000000) 1000000000 with
     | false=>
       rw [k6,k7,Bool.and_false,Bool.false_and]at f;exact vN @A @t6 @u @G l.lX l.iX @q @X @aH @k6 @k7 @f
     | true=>
       rw [k6,k7,Bool.and_true,Bool.true_and]at f;refine BW @A @t6 @u @G l.lX l.iX @q @X @aH @k6 @k7 @hw ?_;exact ⟨i+1,by show _-_<_-_;omega,_,_,_,_,rfl,aN @Y,aN @A,aG,by simp +decide only [V],by simp +decide only [u],aD,w,f⟩
  ·obtain rfl:i=F.length:=Nat.le_antisymm hi H
   rw [List.drop_length,List.all_nil]at f;exact OQ @A @t6 @u @G l.lX @bG @f
end
end Go.Proofs.YtdipddlhenoglaaGreat
/-
 Calls that read the store: whether something is so of all numbers of a list,by a function that reads what its maker keeps.
-/
namespace Go.Abs
noncomputable section
variable {P:Program}
theorem pL {L:List mE} (d:∀ x∈L,bY P x) (H:cQ) {f:FuncId} {fn:Func} {c:Code} {N:Nat} {b:List ResultVar} {args:List AV} {v:AV} {s:Sto} (a:okFn P f=true) (l:P.funcs[f]?=some fn) (m:fn.ntmps=N) (q:fn.results=b.toArray) (k:fn.body=some c)
 (e:Nat.ble args.length N=true) (u:Und s.n v)
 (h:Wk P (orcL L) H c ⟨N,none,f,Tr.leaf.lay 0 args,[],⟨s.n,s.n,s.o⟩,.no⟩ (iR P b (fun S r=>s.n<=S.low/\r=v) fun _ _=>False)):bT P f args s (.ret v none):=by
 refine UO (qZ d) a l k u ?_;rw [iA m e,show fn.results.toList=b by rw [q]];exact h.sound
theorem aLp {n low b:Nat} {o:Tr AObj} {x:AObj}:Sim ⟨n,low,o⟩ ⟨n+1,b,o.set n x⟩:=⟨Nat.le_succ _,fun id c=>by
 have a:id<n:=c
 rw [Sto.get_mk a,Sto.get_mk aD,Tr.get_set_ne _ _ aD]⟩
theorem KV {s:Sto} {low:Nat}:Sim s ⟨s.n,low,s.o⟩:=⟨Nat.le_refl _,fun _ _=>rfl⟩
end
end Go.Abs
namespace Go.Proofs.YtdipddlhenoglaaGreat
open Go.Abs Go Go.Abs.TryzF
noncomputable section
set_option maxRecDepth 10000
abbrev aLq (g:FuncId) (cap:List AV) (D:AV->Prop) (S:Sto->Prop) (p:AV->Bool):mE:=entB g (fun args s=>(∃ x,D x/\args=x::cap)/\S s) fun args=>.bool (p (args.headD .top))
theorem XH {g:FuncId} {cap:List AV} {D:AV->Prop} {S:Sto->Prop} {p:AV->Bool} (h:∀ x,D x->∀ s,S s->bT Tryz.prog g (x::cap) s (.ret (.bool (p x)) none)):bY Tryz.prog (aLq g cap D S p):=
 entB_ok fun args s ⟨⟨x,b,e⟩,a⟩=>by subst e;exact h x b s a
theorem IF {g:FuncId} {cap:List AV} {D:AV->Prop} {S:Sto->Prop} {p:AV->Bool} {L:List mE} {x:AV} {s:Sto} (b:D x) (a:S s):orcL (aLq g cap D S p::L) g (x::cap) s=some (.ret (.bool (p x)) none):=jA ⟨⟨x,b,rfl⟩,a⟩
variable {g:FuncId} {cap:List AV} {D:AV->Prop} {S:Sto->Prop} {p:AV->Bool}
theorem aAl (M:∀ s J,Sim s J->S s->S J) (E:∀ x,D x->cS x) (h:∀ x,D x->∀ s,S s->bT Tryz.prog g (x::cap) s (.ret (.bool (p x)) none)) {a:AV} (N:TSl D a) (s:Sto) (y:S s):
 bT Tryz.prog 116 [a,.func (.func g) [] cap] s (.ret (.int .i64 (tG p a.els 0)) none):=by
 obtain ⟨xs,r,U⟩:=N;have R:=r.2;refine pL (L:=[aLq g cap D S p]) (elist_cons (XH h) aE) aL (by kernel_rfl) Tryz.func116 Tryz.ntmps116 Tryz.results116 rfl rfl aS ?_;have b:∀ {low:Nat},S ⟨s.n,low,s.o⟩:=M _ _ KV y;obtain ⟨n0,H,I⟩:=s;have b:∀ {low:Nat},S ⟨n0,low,I⟩:=b;rw [r.els];refine AE r.lX ?_;refine aM (fun i e=>∃ t,e=⟨19,none,116,t,[],⟨n0,n0,I⟩,.no⟩/\t.val 0=a/\t.val 1=.func (.func g) [] cap/\t.val 7=.int .i64 (xs.length:Nat)/\t.val 8=.int .i64 (i:Nat)/\i<=xs.length/\tG p xs 0=tG p (xs.drop i) i) (fun i=>xs.length-i) 0 ⟨_,rfl,aG,aG,aG,eT,Nat.zero_le _,rfl⟩ ?_;rintro i _ ⟨t,rfl,A,B,v,C,Q,c⟩
 rcases Nat.lt_or_ge i xs.length with m | w
 ·obtain ⟨x,f,X,V,O,l,T,F⟩:=bI (k:=1) (fun x h=>tu_int.len (E x h)) U R m
  rw [O,tG]at c
  have q:=fun {d:Option AV}=>tu_int.pf (E x f) (d:=d)
  have G:=fun {low:Nat}=>IF (g:=g) (cap:=cap) (p:=p) (L:=[]) f (b (low:=low))
  cases u:p x with
  | true=>
    rw [u,if_pos rfl]at c;exact vN @A @B @v @C r.iX @l @F @q @G @u @c @Nat.le_refl
  | false=>
    rw [u,if_neg (by decide)]at c;refine AF @A @B @v @C r.iX @l @F @q @G @u @T ?_;exact ⟨i+1,by show _-_<_-_;omega,_,rfl,aN @A,aN @B,aN @v,aG,m,c⟩
 ·obtain rfl:i=xs.length:=Nat.le_antisymm Q w
  rw [List.drop_length,tG]at c;exact ND @v @C @bG @c @Nat.le_refl
theorem KW (d:∀ s l,Sim s l->S s->S l) (m:∀ x,D x->cS x) (h:∀ x,D x->∀ s,S s->bT Tryz.prog g (x::cap) s (.ret (.bool (p x)) none)) {a:AV} (q:TSl D a) (s:Sto) (c:S s):
 bT Tryz.prog 72 [a,.func (.func g) [] cap] s (.ret (.bool (a.els.any p)) none):=by
 refine pL (L:=[entB 116 (fun args s=>args=[a,.func (.func g) [] cap]/\S s) fun _=>.int .i64 (tG p a.els 0)]) (elist_cons (entB_ok fun args s ⟨e,u⟩=>by subst e;exact aAl d m h q s u) aE) aL (by kernel_rfl) Tryz.func72 Tryz.ntmps72 Tryz.results72 rfl rfl aI ?_;have b:∀ {low:Nat},S ⟨s.n,low,s.o⟩:=d _ _ KV c;obtain ⟨n0,k,v⟩:=s
 have r:=fun {low:Nat}=>jA (f:=116) (D:=fun args s=>args=[a,.func (.func g) [] cap]/\S s) (g:=fun _=>.int .i64 (tG p a.els 0)) (L:=[]) ⟨rfl,b (low:=low)⟩
 refine NC @r @Nat.le_refl ?_;rw [ET]
theorem aLr (u:∀ x,D x->cS x) (h:∀ x,D x->∀ s,S s->bT Tryz.prog g (x::cap) s (.ret (.bool (p x)) none)) (m:∀ s k,Sim s k->S s->S k) (c:Nat) (x:AV) (r:D x) (s:Sto) (e:S s) (d:s.get c=some (aR 0 [.func (.func g) [] cap])):
 bT Tryz.prog 304 (x::[.ptr c 0 0]) s (.ret (.bool (!p x)) none):=by
 refine pL (L:=[aLq g cap D S p]) (elist_cons (XH h) aE) aL (by kernel_rfl) Tryz.func304 Tryz.ntmps304 Tryz.results304 rfl rfl aI ?_;have b:∀ {low:Nat},S ⟨s.n,low,s.o⟩:=m _ _ KV e;obtain ⟨n0,f,v⟩:=s;have a:c<n0:=Sto.get_lt d;rw [Sto.get_mk a]at d;have l:=dQ a
 have q:=fun {low:Nat}=>IF (g:=g) (cap:=cap) (p:=p) (L:=[]) r (b (low:=low))
 exact az4 @q @d @l @Nat.le_refl
theorem aLs (l:∀ s A,Sim s A->S s->S A) (v:∀ x,D x->cS x) (h:∀ x,D x->∀ s,S s->bT Tryz.prog g (x::cap) s (.ret (.bool (p x)) none)) {a:AV} (w:TSl D a) (s:Sto) (r:S s):
 bT Tryz.prog 245 [a,.func (.func g) [] cap] s (.ret (.bool (a.els.all p)) none):=by
 have m:∀ u k,Sim u k->(S u/\u.get s.n=some (aR 0 [.func (.func g) [] cap]))->(S k/\k.get s.n=some (aR 0 [.func (.func g) [] cap])):=fun u k b ⟨B,C⟩=>⟨l u k b B,b.get C⟩
 have E:=fun u (b:S u/\u.get s.n=some (aR 0 [.func (.func g) [] cap]))=>KW (g:=304) (cap:=[.ptr s.n 0 0]) (D:=D) (p:=fun x=>!p x) m v (fun x H u b=>aLr v h l s.n x H u b.1 b.2) w u b
 have q:∀ {low c:Nat},S ⟨s.n+1,c,s.o.set s.n (aR 0 [.func (.func g) [] cap])⟩:=fun {low c}=>l ⟨s.n,low,s.o⟩ _ aLp (l _ _ KV r)
 have d:=w;obtain ⟨xs,G,_⟩:=d;obtain ⟨n0,y,I⟩:=s;refine pL (L:=[entB 72 (fun args u=>args=[a,.func (.func 304) [] [.ptr n0 0 0]]/\(S u/\u.get n0=some (aR 0 [.func (.func g) [] cap]))) fun _=>.bool (a.els.any fun x=>!p x)]) (elist_cons (entB_ok fun args u ⟨e,b⟩=>by subst e;exact E u b) aE) aL (by kernel_rfl) Tryz.func245 Tryz.ntmps245 Tryz.results245 rfl rfl aI ?_
 have F:=fun {low:Nat}=>jA (f:=72) (D:=fun args u=>args=[a,.func (.func 304) [] [.ptr n0 0 0]]/\(S u/\u.get n0=some (aR 0 [.func (.func g) [] cap]))) (g:=fun _=>.bool (a.els.any fun x=>!p x)) (L:=[]) (s:=⟨n0+1,low,I.set n0 (aR 0 [.func (.func g) [] cap])⟩) ⟨rfl,q (low:=0),by rw [Sto.get_mk aD,Tr.get_set_same]⟩
 refine NC @F @Nat.le_refl ?_;rw [<-List.not_all_eq_any_not,Bool.not_not]
def Acc1 (u:Sto) (c:Nat) (k:Nat) (l:List AV):Prop:=∃ v,u.get c=some (aR 0 [v])/\(l=[]/\v=.nils∨l≠[]/\∃ id g,v=.sl id g 0 l.length (.room 1)/\u.get id=some (aR g l)/\k<id)
theorem Acc1.sim {l':Nat} {u b:Sto} {c k:Nat} {l:List AV} (h:SimX l' u b) (q:c≠l') (r:l'<=k) (o:Acc1 u c k l):Acc1 b c k l:=by
 obtain ⟨v,e,a⟩:=o;refine ⟨v,h.get e q,?_⟩
 rcases a with a | ⟨d,id,g,rfl,f,m⟩
 ·exact .inl a
 ·exact .inr ⟨d,id,g,rfl,h.get f aD,m⟩
theorem Acc1.new {u:Sto} {c k id g m:Nat} {l:List AV} (a:u.get c=some (aR 0 [.sl id g 0 m (.room 1)])) (b:u.get id=some (aR g l)) (f:m=l.length) (e:l≠[]) (d:k<id):Acc1 u c k l:=
 ⟨_,a,.inr ⟨e,id,g,by rw [f],b,d⟩⟩
theorem Acc1.nil {u:Sto} {c k:Nat} (a:u.get c=some (aR 0 [.nils])):Acc1 u c k []:=⟨_,a,.inl ⟨rfl,rfl⟩⟩
def fY (n:Nat):List AV:=(List.range n).map fun i=>.int .i64 (i:Nat)
def pM (n:Nat):AV:=if n=0 then .nils else .fz (fY n) false
theorem AB (n:Nat):(fY n).length=n:=by simp [fY]
theorem EJ (n:Nat):fY (n+1)=fY n++[.int .i64 (n:Nat)]:=by simp [fY,List.range_succ]
theorem uO (n:Nat):∀ x∈fY n,cS x:=fun x a=>by obtain ⟨i,_,rfl⟩:=List.mem_map.1 a;exact ⟨_,rfl⟩
theorem EK {n:Nat} (h:n<=9223372036854775807):Sl (pM n) (fY n):=by
 unfold pM;split
 ·rename_i a;subst a;exact ⟨.inl ⟨rfl,rfl⟩,Nat.zero_le _⟩
 ·exact ⟨.inr ⟨false,rfl⟩,by rw [AB];exact h⟩
def xX (n:Nat):List (List AV):=(List.range n).map fun i=>[.int .i64 (i:Nat)]
abbrev BF (n:Nat):AV:=.func (.func 305) [] [.pf (.int .i64 (n:Nat))]
theorem IG (n:Nat):UnderE 0 (BF n):=jB (by intro x a;cases a) (by intro x a;simp at a;subst a;exact ⟨2,rfl⟩)
theorem TQ (n:Nat):Abs.Returns Tryz.prog 246 [.int .i64 (n:Nat)] (BF n):=by
 refine bM (L:=[]) aE aL (by kernel_rfl) Tryz.func246 Tryz.ntmps246 Tryz.results246 rfl rfl (aA aS aC) ?_;refine AC ?_;exact mA (cs:=[.int .i64 (n:Nat)]) rfl rfl (aA aS aC)
set_option maxHeartbeats 1000000 in
theorem KX (m:Nat) (Z:m<9223372036854775807) {O:bP} (I:∀ a σ,O 305 a σ=none):aUn Tryz.prog O (BF m) (xX m):=by
 intro l J D X σ C r L M q V
 have B:(xX m).length=m:=by simp [xX]
 refine uU (I _ _) (by kernel_rfl) Tryz.func305 rfl (Wk.sound (H:=aL) ?_);rw [B];show Wk _ _ _ _ ⟨13,none,305,Tr.leaf.lay 0 [.func (.yield l) [] [],.pf (.int .i64 (m:Nat))],[],⟨σ.n,σ.n,σ.o⟩,.no⟩ _;refine AC ?_
 refine aM (fun i e=>∃ t u,e=⟨13,none,305,t,[],u,.no⟩/\t.val 0=.func (.yield l) [] []/\t.val 4=.int .i64 (m:Nat)/\t.val 5=.int .i64 (i:Nat)/\i<=m/\l<u.n/\J i u/\(i=0∨u.low<=l)) (fun i=>m-i) 0
  ⟨_,_,rfl,aG,aG,eT,Nat.zero_le _,C,r _ _ _ (Sim.low σ σ.n) q,.inl rfl⟩ ?_
 rintro i _ ⟨t,⟨n,low,o⟩,rfl,Q,F,G,Y,N,R,y⟩;by_cases A:i<m
 ·have E:(((i:Nat):Int)<((m:Nat):Int))=True:=eq_true aD
  have U:IntKind.i64.wrap ((i:Int)+1)=((i+1:Nat):Int):=by rw [IntWalk.i64_in _ aD];rfl
  refine IK @Q @F @G @E ?_;have c:=V i [.int .i64 (i:Nat)] (by simp [xX,A]) ⟨n,low,o⟩ N R
  refine c.mono fun res T=>?_
  have f:rK l J D X i ⟨n,low,o⟩ res:=T;clear T c
  cases res with
  | pan v d=>
    rw [UD];have k:(d.getD ⟨n,low,o⟩).low<=l/\X v (d.getD ⟨n,low,o⟩):=f;generalize d.getD ⟨n,low,o⟩=u at *;refine AC ?_;exact aQv rfl (mY _ _ _ (X v) (M v) k.2 (.inl (Nat.lt_of_le_of_lt k.1 C)))
  | ret v d=>
    rw [kK]
    have k:(v=.bool true/\(d.getD ⟨n,low,o⟩).low<=l/\l<(d.getD ⟨n,low,o⟩).n/\J (i+1) (d.getD ⟨n,low,o⟩))∨(v=.bool false/\(d.getD ⟨n,low,o⟩).low<=l/\D (d.getD ⟨n,low,o⟩)):=by
     cases v with
     | bool b=>cases b with
       | true=>exact .inl ⟨rfl,f⟩
       | false=>exact .inr ⟨rfl,f⟩
     | _=>exact f.elim
    generalize d.getD ⟨n,low,o⟩=u at *
    rcases k with ⟨rfl,k1,k0,k2⟩ | ⟨rfl,k1,k2⟩
    ·refine NC @G @U ?_
     exact ⟨i+1,by show _-_<_-_;omega,_,_,rfl,aN @Q,aN @F,aG,A,k0,k2,.inr k1⟩
    ·refine AC ?_
     exact qR rfl (vs:=[]) rfl (.inr (mY _ _ _ D L k2 (.inl (Nat.lt_of_le_of_lt k1 C))))
 ·have E:(((i:Nat):Int)<((m:Nat):Int))=False:=eq_false aD
  refine CL @F @G @E ?_
  have w:i=m:=by omega
  refine qR rfl (vs:=[]) rfl (.inl (mY _ _ _ (J m) (r _) (w ▸ R) ?_))
  rcases y with h | h
  ·refine .inr ?_
   rw [<-w,h];exact q
  ·exact .inl (Nat.lt_of_le_of_lt h C)
set_option maxHeartbeats 4000000 in
theorem KY (m:Nat) (T:m<=1000):Abs.Returns Tryz.prog 123 [.nils,BF m] (pM m):=by
 refine TY (L:=[]) aE aL (by kernel_rfl) Tryz.func123 Tryz.ntmps123 Tryz.results123 rfl rfl (aA eU (aA (IG m).und aC)) ?_
 have C:(xX m).length=m:=by simp [xX]
 refine AC ?_;refine aMm (xs:=xX m) (fun i u=>Acc1 u 0 2 (fY i)) (fun _ _=>False) (fun _ _=>False) ?_ (fun i u U h Q=>Acc1.sim h (by decide) (by decide) Q) (fun _ _ _ _ h=>h) (fun _ _ _ _ h=>h) (fun _ _ h=>h.elim) ⟨.nils,rfl,.inl ⟨rfl,rfl⟩⟩ ?_ ?_ (fun _ _ _ h=>h.elim) (fun _ _ _ _ h=>h.elim) (fun _ _ h=>h.elim)
 ·simp +decide only [↓ nS]
  exact KX m aD fun a u=>rfl
 ·rintro i x k ⟨n,low,o⟩ G d r ⟨v,B,c⟩
  have R:i<m:=by
   have:=(List.getElem?_eq_some_iff.1 k).1
   simpa [xX] using this
  have I:x=[.int .i64 (i:Nat)]:=by
   simp [xX,R]at k;exact k.symm
  subst I;have H:2<n:=G;have e:=dQ (i:=0) (n:=n) aD;have w:=dQ (i:=1) (n:=n) aD;have E:=dQ (i:=2) (n:=n) aD;simp +decide only [Sto.get_mk,e,w,E,Nat.reduceAdd]at d r B
  have f:(2*((fY i).length+1)+1024)*8<=281474976710656/\(fY i).length+1<4611686018427387904:=by rw [AB];omega
  refine ⟨_,rfl,?_⟩
  rcases c with ⟨A,rfl⟩ | ⟨A,id,g,rfl,b,N⟩
  ·simp +contextual +decide (maxSteps:=1000000) only [↓ wP,wQ,aHk,tf,Nat.reduceAdd,Nat.reduceMul,e,w,E,gL,d,r,B,lL,kJ,Env.setS,ne_eq]
   rw [EJ,A];refine Acc1.new (id:=n+1) (g:=0) (m:=1) ?_ ?_ rfl (by simp) aD
   ·exact LF @e
   ·exact ag2 @e @gL
  ·have q:id<n:=Sto.get_lt b
   rw [Sto.get_mk q]at b;have J:=dQ q
   have M:id≠2/\2≠id/\id≠0/\0≠id/\id≠1/\1≠id:=⟨aD,aD,aD,aD,aD,aD⟩
   simp +contextual +decide (maxSteps:=1000000) only [↓ wP,wQ,aHk,tf,Nat.reduceAdd,Nat.mul_one,Nat.zero_add,e,w,E,J,M,gL,d,r,B,b,f,lL,kJ,Env.setS,ne_eq];rw [EJ];refine Acc1.new (id:=id) (g:=g+1) (m:=(fY i).length+1) ?_ ?_ (by simp) (by simp) N
   ·exact LF @e
   ·exact ag2 @J @M
 ·rintro ⟨n,low,o⟩ G d ⟨v,B,c⟩
  have H:2<n:=G;have e:=dQ (i:=0) (n:=n) aD;have w:=dQ (i:=1) (n:=n) aD;have E:=dQ (i:=2) (n:=n) aD;rw [C]at c;simp +decide only [Sto.get_mk,e,w]at d B;refine XK @aHk @e @w @gL @d @B ?_
  rcases c with ⟨A,rfl⟩ | ⟨A,id,g,rfl,b,N⟩
  ·have F:m=0:=by rw [<-AB m,A];rfl
   rw [pM,if_pos F];exact .und _ eU
  ·have F:m≠0:=fun h=>A (by subst h;rfl)
   rw [pM,if_neg F];have l:=Sto.get_lt b;rw [Sto.get_mk l]at b
   refine mZ (g:=g) (cs:=fY m) (Nat.zero_le _) ?_ rfl (by simp) (fun x k=>(tu_int x (uO m x k)).2) fun j x y k O=>?_
   ·rw [Sto.get_mk l,Tr.get_set_ne _ _ aD];exact b
   ·rw [Nat.zero_add]at k
    rw [k]at O;cases O;exact .und _ (tu_int x (uO m x (List.mem_of_getElem? k))).1.und
theorem TR (m:Nat) (a:m<=1000):Abs.Returns Tryz.prog 79 [BF m] (pM m):=by
 refine aF (L:=[jG 123 [.nils,BF m] (pM m)]) (elist_cons (bX (KY m a)) aE) aL (by kernel_rfl) Tryz.func79 Tryz.ntmps79 Tryz.results79 rfl rfl (aA (IG m).und aC) (oM (EK aD) fun x b=>(tu_int x (uO m x b)).1).und ?_;exact uQ @fU
end
end Go.Proofs.YtdipddlhenoglaaGreat
