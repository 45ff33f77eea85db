/-
  The program of meanings: objects.
-/
import Derived.Test.YtdipddlhenoglaaGreatNc
set_option linter.unusedVariables false
set_option linter.unusedSimpArgs false
namespace Go.Proofs.YtdipddlhenoglaaGreat
open Go.Abs Go Go.Abs.TryzF
noncomputable section
set_option maxRecDepth 10000
section
variable {ns fs mm cs os ts us is uu:AV}
def aGc (ns fs os r:AV):List AV->Option AV:=sB (fun a b=>a=r/\vO b) fun _ b=>.bool (lE ns.els fs.els.length os.els.length (b.fld 1).num (b.fld 2).els (b.fld 3).els)
theorem aGd (h:RW ns fs mm cs os ts us is uu):Abs.Ok Tryz.prog 244 (aGc ns fs os (rn ns fs mm cs os ts us is uu)):=
 ok2 fun a b ⟨e,c⟩=>by subst e;obtain ⟨_,_,v,g,rfl,⟨k,rfl⟩,⟨n,rfl⟩,f,d⟩:=c;exact aLw h k n v g f d
theorem aGe {ns fs os r v g:AV} {k n:Int} (b:cG v) (a:BX g):aGc ns fs os r [r,.agg [.int .i64 k,.int .i64 n,v,g]]=some (.bool (lE ns.els fs.els.length os.els.length n v.els g.els)):=
 sg2_eq ⟨rfl,_,_,_,_,rfl,⟨_,rfl⟩,⟨_,rfl⟩,b,a⟩
theorem mW {k:Nat} {D:AV->Prop} {xs:List AV} (e:Tk k D) (c:∀ x∈xs,D x) {n:Int} (h:inR n 0 ((xs.length:Int)-1)=true):
 ∃ y,D y/\y∈xs/\xs.getD n.toNat .top=y/\(∀ {q:IntKind} {d:Option AV},vP (some k) xs (.int q n) d=some (.pf y))/\(∀ {d:Option AV},pfC (some (some k)) y d=some y)/\0<=n/\n.toNat<xs.length:=by
 simp only [inR,Bool.and_eq_true,decide_eq_true_eq]at h
 have a:n.toNat<xs.length:=by omega
 have f:=List.getElem?_eq_getElem a;have b:=List.getElem_mem a;exact ⟨_,c _ b,b,by simp [List.getD_eq_getElem?_getD,f],fun {q d}=>qQ h.1 f (e.len (c _ b)),fun {d}=>e.pf (c _ b),h.1,a⟩
set_option maxHeartbeats 4000000 in
theorem aAm (h:RW ns fs mm cs os ts us is uu) (k n:Int) (vs R:AV) (P:cG vs) (I:BX R):
 Abs.Returns Tryz.prog 183 [rn ns fs mm cs os ts us is uu,.agg [.int .i64 k,.int .i64 n,vs,R]] (.bool (jL ns.els cs.els fs.els.length os.els.length k n vs.els R.els)):=by
 have aa:UnderE 0 (.agg [.int .i64 k,.int .i64 n,vs,R]):=(tk_ob _ ⟨_,_,_,_,rfl,⟨_,rfl⟩,⟨_,rfl⟩,P,I⟩).1;have u:=(tu_vals _ P).2;have p:=(eE _ I).2;have Z:=aGe (ns:=ns) (fs:=fs) (os:=os) (r:=rn ns fs mm cs os ts us is uu) (k:=k) (n:=n) P I;have a1:uP (qO (rn ns fs mm cs os ts us is uu)) (gM fs.els.length os.els.length) [vs,qO (rn ns fs mm cs os ts us is uu)]=_:=sg2_eq ⟨P,rfl⟩;obtain ⟨xv,f,_⟩:=P;have X:=EO (ns:=ns) (fs:=fs) (os:=os) (r:=rn ns fs mm cs os ts us is uu) (l:=0) I aD aD;obtain ⟨B,a,Y⟩:=I;obtain ⟨S,v,N⟩:=h.ns;obtain ⟨xc,D,V⟩:=h.cs;obtain ⟨Q,c2,c3,c4,c5,c6,c7,c8,c9⟩:=h.cells;have w1:=bU v.2;have w2:=bU D.2;have hl:=f.2;rw [f.els]at Z a1 ⊢;rw [a.els]at Z X ⊢
 refine aF (L:=[ent 187 gB,ent 241 (uP (qO (rn ns fs mm cs os ts us is uu)) (gM fs.els.length os.els.length)),ent 243 (CK ns fs os (rn ns fs mm cs os ts us is uu)),ent 244 (aGc ns fs os (rn ns fs mm cs os ts us is uu))])
  (elist_cons within_ok.ent (elist_cons (XI h).ent (elist_cons (EN h).ent (elist_cons (aGd h).ent aE)))) (fun r=>(bif Nat.beq r 6 then [11] else bif Nat.beq r 8 then [11] else bif Nat.beq r 14 then [19] else [],[])) (by kernel_rfl) Tryz.func183 Tryz.ntmps183 Tryz.results183 rfl rfl (aA h.und.und (aA aa.und aC)) aI ?_
 cases c:xv.all (gM fs.els.length os.els.length) with
 | false=>simp +contextual +decide (maxSteps:=1000000) only [↓ wP,wQ,tf,Nat.reduceAdd,wS,u,p,a1,c];simp +decide only [wT,AV.fld,AV.num,jL,c]
 | true=>
 by_cases k1:k=1
 ·subst k1
  by_cases e:((B.length:Nat):Int)=0
  ·cases o:inR n 0 ((xc.length:Int)-1) with
   | false=>simp +contextual +decide (maxSteps:=1000000) only [↓ wP,wQ,tf,Nat.reduceAdd,wS,u,p,a1,c,a.len,e,D.len,D.stab,w2,aH,o,c4];simp +decide only [wT,AV.fld,AV.num,jL,c,D.els,e,o]
   | true=>
     obtain ⟨y,H,_,F,w,O,_,_⟩:=mW tk_con V o;obtain ⟨_,_,rfl,⟨b,rfl,_⟩,⟨m,rfl⟩⟩:=H;simp +contextual +decide (maxSteps:=1000000) only [↓ wP,wQ,tf,Nat.reduceAdd,wS,u,p,a1,c,a.len,e,D.len,D.stab,D.idx,w2,aH,o,w,f.len,f.stab,c4];simp +decide only [wT,AV.fld,AV.num,jL,c,D.els,F,e,o]
  ·simp +contextual +decide (maxSteps:=1000000) only [↓ wP,wQ,tf,Nat.reduceAdd,wS,u,p,a1,c,a.len,e];simp +decide only [wT,AV.fld,AV.num,jL,c,e]
 by_cases k2:k=2
 ·subst k2
  by_cases e:((B.length:Nat):Int)=0
  ·cases o:inR n 0 ((S.length:Int)-1) with
   | false=>simp +contextual +decide (maxSteps:=1000000) only [↓ wP,wQ,tf,Nat.reduceAdd,wS,u,p,a1,c,a.len,e,v.len,v.stab,w1,aH,o,Q];simp +decide only [wT,AV.fld,AV.num,jL,c,v.els,e,o]
   | true=>
     obtain ⟨y,H,_,F,w,O,_,_⟩:=mW tk_node N o;obtain ⟨_,_,_,_,rfl,⟨op,rfl⟩,⟨m,rfl⟩,q1,q2⟩:=H;have e1:=(aT _ q1).2;have e2:=(fG _ q2).2;by_cases A:op=5
     ·simp +contextual +decide (maxSteps:=1000000) only [↓ wP,wQ,tf,Nat.reduceAdd,wS,u,p,a1,c,a.len,e,v.len,v.stab,v.idx,w1,aH,o,w,f.len,f.stab,Q,A]
      simp +decide only [wT,AV.fld,AV.num,jL,c,v.els,eF,F,e,o,A]
     ·simp +contextual +decide (maxSteps:=1000000) only [↓ wP,wQ,tf,Nat.reduceAdd,wS,u,p,a1,c,a.len,e,v.len,v.stab,v.idx,w1,aH,o,w,Q,A]
      simp +decide only [wT,AV.fld,AV.num,jL,c,v.els,eF,F,e,o,A]
  ·simp +contextual +decide (maxSteps:=1000000) only [↓ wP,wQ,tf,Nat.reduceAdd,wS,u,p,a1,c,a.len,e];simp +decide only [wT,AV.fld,AV.num,jL,c,e]
 by_cases k3:k=3
 ·subst k3
  by_cases e:((B.length:Nat):Int)=0
  ·by_cases o:n=0
   ·simp +contextual +decide (maxSteps:=1000000) only [↓ wP,wQ,tf,Nat.reduceAdd,wS,u,p,a1,c,a.len,e,o,f.len];simp +decide only [wT,AV.fld,AV.num,jL,c,e]
   ·simp +contextual +decide (maxSteps:=1000000) only [↓ wP,wQ,tf,Nat.reduceAdd,wS,u,p,a1,c,a.len,e,o];simp +decide only [wT,AV.fld,AV.num,jL,c,o]
  ·simp +contextual +decide (maxSteps:=1000000) only [↓ wP,wQ,tf,Nat.reduceAdd,wS,u,p,a1,c,a.len,e];simp +decide only [wT,AV.fld,AV.num,jL,c,e]
 by_cases k4:k=4
 ·subst k4
  by_cases e:((B.length:Nat):Int)=0
  ·by_cases o:n=0
   ·simp +contextual +decide (maxSteps:=1000000) only [↓ wP,wQ,tf,Nat.reduceAdd,wS,u,p,a1,c,a.len,e,o,f.len];simp +decide only [wT,AV.fld,AV.num,jL,c,e]
   ·simp +contextual +decide (maxSteps:=1000000) only [↓ wP,wQ,tf,Nat.reduceAdd,wS,u,p,a1,c,a.len,e,o];simp +decide only [wT,AV.fld,AV.num,jL,c,o]
  ·simp +contextual +decide (maxSteps:=1000000) only [↓ wP,wQ,tf,Nat.reduceAdd,wS,u,p,a1,c,a.len,e];simp +decide only [wT,AV.fld,AV.num,jL,c,e]
 by_cases k5:k=5
 ·subst k5
  by_cases o:n=0
  ·by_cases A:((xv.length:Nat):Int)=0
   ·by_cases e:((B.length:Nat):Int) > 0
    ·cases G:dE ns.els fs.els.length os.els.length B 0 with
     | false=>simp +contextual +decide (maxSteps:=1000000) only [↓ wP,wQ,tf,Nat.reduceAdd,wS,u,p,a1,c,a.len,a.stab,f.len,f.stab,e,o,A,X,G];simp +decide only [wT,AV.fld,AV.num,jL,G]
     | true=>
       have g0:inR 0 0 ((B.length:Int)-1)=true:=by simp only [inR,Bool.and_eq_true,decide_eq_true_eq];omega
       obtain ⟨y,H,ac,F,w,O,_,_⟩:=mW tk_fr Y g0;have C:=G;simp only [dE,nQ,Bool.and_eq_true]at C;have J:=xZ (List.all_eq_true.1 C.1.2 y ac);obtain ⟨_,_,_,rfl,⟨m,rfl⟩,q1,q2⟩:=H;have e1:=(tu_vals _ q1).2;have e2:=(tu_vals _ q2).2;rw [v.els]at J;obtain ⟨z,U,_,hz,M,ae,_,_⟩:=mW tk_node N J;obtain ⟨_,_,_,_,rfl,⟨op,rfl⟩,⟨m',rfl⟩,q3,q4⟩:=U;have e3:=(aT _ q3).2;have e4:=(fG _ q4).2;have E:∀ {q:IntKind} {d:Option AV},vP (some 4) S (.int q m) d=some (.pf (.agg [.int .i64 op,.int .i64 m',_,_])):=M;simp +contextual +decide (maxSteps:=1000000) only [↓ wP,wQ,tf,Nat.reduceAdd,wS,u,p,a1,c,a.len,a.stab,a.idx,f.len,f.stab,e,o,A,X,G,w,v.idx,E,Q]
       have T:dE S fs.els.length os.els.length B 0=true:=by rw [<-v.els];exact G
       have ab:B.getD 0 .top=.agg [.int .i64 m,_,_]:=F;have ad:S.getD m.toNat .top=.agg [.int .i64 op,.int .i64 m',_,_]:=hz;simp +decide only [wT,AV.fld,AV.num,jL,c,e,A,T,v.els,eF,ab,ad]
    ·simp +contextual +decide (maxSteps:=1000000) only [↓ wP,wQ,tf,Nat.reduceAdd,wS,u,p,a1,c,a.len,a.stab,f.len,f.stab,e,o,A];simp +decide only [wT,AV.fld,AV.num,jL,e]
   ·simp +contextual +decide (maxSteps:=1000000) only [↓ wP,wQ,tf,Nat.reduceAdd,wS,u,p,a1,c,a.len,f.len,f.stab,o,A];simp +decide only [wT,AV.fld,AV.num,jL,A]
  ·simp +contextual +decide (maxSteps:=1000000) only [↓ wP,wQ,tf,Nat.reduceAdd,wS,u,p,a1,c,a.len,o];simp +decide only [wT,AV.fld,AV.num,jL,o]
 by_cases k6:k=6
 ·subst k6
  simp +contextual +decide (maxSteps:=1000000) only [↓ wP,wQ,tf,Nat.reduceAdd,wS,u,p,a1,c,a.len,Z];simp +decide only [wT,AV.fld,AV.num,jL,c]
 simp +contextual +decide (maxSteps:=1000000) only [↓ wP,wQ,tf,Nat.reduceAdd,wS,u,p,a1,c,a.len,k1,k2,k3,k4,k5,k6];simp +decide only [wT,AV.fld,AV.num,jL,k1,k2,k3,k4,k5,k6]
end
theorem rIn6_ok:Abs.Ok Tryz.prog 55 gB:=by
 intro args v b;unfold gB at b;split at b<;>cases b;rename_i n l h;refine aF (L:=[]) aE aL (by kernel_rfl) Tryz.func55 Tryz.ntmps55 Tryz.results55 rfl rfl (aA aS (aA aS (aA aS aC))) aI ?_;by_cases a:l<=n
 ·refine AE @a ?_
  simp [inR,a]
 ·refine AE @a ?_
  simp [inR,a]
set_option maxHeartbeats 4000000 in
theorem rAsks_ok:Abs.Ok Tryz.prog 131 (uS eH fun n=>.int .i64 (eJ n)):=AJ fun x hx=>by
 have hux:=(tk_node x hx).1;obtain ⟨_,_,ki,pa,rfl,⟨k,rfl⟩,⟨n,rfl⟩,hk,hp⟩:=hx;have ck:=(aT _ hk).2;have cp:=(fG _ hp).2;obtain ⟨xs,hks,_⟩:=hk;refine aF (L:=[]) aE aL (by kernel_rfl) Tryz.func131 Tryz.ntmps131 Tryz.results131 rfl rfl (aA hux.und aC) aS ?_
 rcases EM k with rfl | rfl | rfl | rfl | rfl | rfl | rfl | rfl | rfl | rfl | rfl | rfl | rfl | rfl | rfl | rfl | rfl | rfl | rfl | h
 case inr.inr.inr.inr.inr.inr.inr.inr.inl=>refine CL @ck @cp hks.lX ?_;simp [eJ,AV.fld,AV.num,hks.els]
 case inr.inr.inr.inr.inr.inr.inr.inr.inr.inr.inr.inr.inr.inr.inr.inr.inr.inr.inr=>refine CL @ck @cp @h ?_;simp [eJ,AV.fld,AV.num,h]
 all_goals refine NC @ck @cp ?_;rfl
section
variable {ns fs mm cs os ts us is uu:AV}
abbrev pg (ns fs mm cs:AV):AV:=.agg [ns,fs,mm,cs]
abbrev wd (os ts us is uu:AV):AV:=.agg [os,ts,us,is,uu]
theorem RW.pg (h:RW ns fs mm cs os ts us is uu):gC (pg ns fs mm cs):=⟨_,_,_,_,rfl,h.ns,h.fs,h.mm,h.cs⟩
theorem RW.wd (h:RW ns fs mm cs os ts us is uu):NE (wd os ts us is uu):=⟨_,_,_,_,_,rfl,h.os,h.ts,h.us,h.is,h.uu⟩
abbrev KZ (P W:AV) (d no:Int):List AV->Option AV:=sg3 (fun a b c=>a=P/\b=W/\nP c) fun _ _ c=>.bool (gM d no c)
set_option maxHeartbeats 1000000 in
theorem aAn (h:RW ns fs mm cs os ts us is uu):Abs.Ok Tryz.prog 132 (KZ (pg ns fs mm cs) (wd os ts us is uu) fs.els.length os.els.length):=ok3 fun a b x ⟨E,F,D⟩=>by
 subst E;subst F;have v:=(tk_val x D).1;obtain ⟨_,_,rfl,⟨k,rfl⟩,⟨n,rfl⟩⟩:=D;obtain ⟨I,r,_⟩:=h.fs;obtain ⟨J,u,_⟩:=h.os;obtain ⟨c,d,e,f,l,m,o,p,q⟩:=h.cells;have G:=bU r.2;have H:=bU u.2;refine aF (L:=[ent 55 gB]) (elist_cons rIn6_ok.ent aE) aL (by kernel_rfl) Tryz.func132 Tryz.ntmps132 Tryz.results132 rfl rfl (aA (cH _ h.pg).1.und (aA (mX _ h.wd).1.und (aA v.und aC))) aI ?_;rw [r.els,u.els,OP];by_cases w:k=1
 ·subst w;refine wW @aH @c @d @e @f @l @m @o @p @q ?_;rfl
 by_cases y:k=2
 ·subst y;exact GR @aH @c @d @e @f @l @m @o @p @q
 by_cases A:k=3
 ·subst A;exact az9 @c @d @e @f @l @m @o @p @q
 by_cases B:k=4
 ·subst B;exact vN @aH r.lX @G @c @d @e @f @l @m @o @p @q
 by_cases C:k=5
 ·subst C;exact vN @aH u.lX @H @c @d @e @f @l @m @o @p @q
 exact GS @w @y @A @B @C @c @d @e @f @l @m @o @p @q
abbrev lD (P W:AV) (e no:Int):List AV->Option AV:=sg4 (fun a b c d=>a=P/\b=W/\cG c/\cS d) fun _ _ c d=>.bool (eI e no d.num c.els)
theorem wU (h:RW ns fs mm cs os ts us is uu):Abs.Ok Tryz.prog 94 (lD (pg ns fs mm cs) (wd os ts us is uu) fs.els.length os.els.length):=ok4 fun a b x y ⟨ea,eb,Q,hy⟩=>by
 subst ea;subst eb;obtain ⟨c,rfl⟩:=hy;have G:=(tu_vals x Q).1;obtain ⟨R,S,T,U,V,X,Y,Z,c9⟩:=h.cells;obtain ⟨xs,k,H⟩:=Q;have hl:=k.2;refine aF (L:=[ent 132 (KZ (pg ns fs mm cs) (wd os ts us is uu) fs.els.length os.els.length)]) (elist_cons (aAn h).ent aE) (fun r=>(bif Nat.beq r 4 then [6] else [],[])) (by kernel_rfl) Tryz.func94 Tryz.ntmps94 Tryz.results94 rfl rfl (aA (cH _ h.pg).1.und (aA (mX _ h.wd).1.und (aA G.und (aA aS aC)))) aI ?_;rw [k.els,show (AV.int .i64 c).num=c from rfl];refine ap9 @R @S @T @U @V @X @Y @Z @c9 ?_;refine aM (fun i e=>∃ t n low o,e=⟨33,none,94,t,[],⟨n,low,o⟩,.no⟩/\t.val 2=x/\t.val 3=.int .i64 c/\t.val 4=.ptr 0 0 0/\t.val 5=.ptr 1 0 0/\t.val 9=.int .i64 (i:Nat)/\o.get 0=some (aR 0 [ns,fs,mm,cs])/\o.get 1=some (aR 0 [os,ts,us,is,uu])/\2<=n/\i<=xs.length/\eI fs.els.length os.els.length c xs=(decide ((xs.length:Int)<=c)&&(xs.drop i).all (gM fs.els.length os.els.length))) (fun i=>xs.length-i) 0 ⟨_,_,_,_,rfl,aG,aG,aG,aG,eT,qC,aG,aD,Nat.zero_le _,rfl⟩ ?_;rintro i _ ⟨t,n,low,o,rfl,v,w,J,M,B,C,D,hn,hi,f⟩;have N:=dQ (show 0<n by omega);have O:=dQ (show 1<n by omega)
 rcases Nat.lt_or_ge i xs.length with q | F
 ·obtain ⟨y,l,hm,hg,hd,p,hw,E⟩:=bI (fun x h=>tk_val.len h) H hl q
  rw [hd,List.all_cons]at f
  have u:=fun {d:Option AV}=>tk_val.pf l (d:=d)
  have P:KZ (pg ns fs mm cs) (wd os ts us is uu) fs.els.length os.els.length [pg ns fs mm cs,wd os ts us is uu,y]=_:=kI ⟨rfl,rfl,l⟩;by_cases I:((i:Nat):Int)<=c
  ·cases A:gM fs.els.length os.els.length y with
   | false=>
     rw [A,Bool.false_and,Bool.and_false]at f;exact aGm @v @w @J @M @B @C @D @N @O k.lX k.iX @p @E @u @I @P @A @f
   | true=>
     rw [A,Bool.true_and]at f;refine EP @v @w @J @M @B @C @D @N @O k.lX k.iX @p @E @u @I @P @A @hw ?_;exact ⟨i+1,by show _-_<_-_;omega,_,_,_,_,rfl,aN @v,aN @w,aN @J,aN @M,aG,by simp +decide only [C],by simp +decide only [D],aD,q,f⟩
  ·have m:(((xs.length:Nat):Int)<=c)=False:=eq_false aD
   rw [decide_eq_false (fun h=>(m ▸ h:False)),Bool.false_and]at f;exact az8 @v @w @B k.lX @E @I @m @f
 ·obtain rfl:i=xs.length:=Nat.le_antisymm hi F
  rw [List.drop_length,List.all_nil,Bool.and_true]at f;exact RD @v @w @B k.lX @bG @f
end
section
variable {ns fs mm cs os ts us is uu:AV}
abbrev tE (P W:AV) (e:List AV) (d no:Int):List AV->Option AV:=sg3 (fun a b c=>a=P/\b=W/\BX c) fun _ _ c=>.bool (nQ e d no c.els)
theorem aLt {b:List AV} {a no n:Int} {e v:AV}:NF b a no (.agg [.int .i64 n,e,v])=(inR n 0 ((b.length:Int)-1)&&eI a no 30 e.els&&eI a no (eJ (eF b n)) v.els):=rfl
set_option maxHeartbeats 4000000 in
theorem EL (h:RW ns fs mm cs os ts us is uu):Abs.Ok Tryz.prog 92 (tE (pg ns fs mm cs) (wd os ts us is uu) ns.els fs.els.length os.els.length):=ok3 fun a b x ⟨ea,eb,hx⟩=>by
 subst ea;subst eb;have Y:=(eE x hx).1;obtain ⟨c1,c2,c3,c4,c5,c6,c7,c8,c9⟩:=h.cells;obtain ⟨xs,k,Z⟩:=hx;obtain ⟨S,c,X⟩:=h.ns;have hl:=k.2;have R:=bU c.2;refine aF (L:=[ent 55 gB,ent 131 (uS eH fun n=>.int .i64 (eJ n)),ent 94 (lD (pg ns fs mm cs) (wd os ts us is uu) fs.els.length os.els.length)]) (elist_cons rIn6_ok.ent (elist_cons rAsks_ok.ent (elist_cons (wU h).ent aE))) (fun r=>(bif Nat.beq r 5 then [6,13,27,28] else [],[])) (by kernel_rfl) Tryz.func92 Tryz.ntmps92 Tryz.results92 rfl rfl (aA (cH _ h.pg).1.und (aA (mX _ h.wd).1.und (aA Y.und aC))) aI ?_;rw [k.els,c.els];refine ap9 @c1 @c2 @c3 @c4 @c5 @c6 @c7 @c8 @c9 ?_;refine aM (fun i e=>∃ t n low o,e=⟨57,none,92,t,[],⟨n,low,o⟩,.no⟩/\t.val 2=x/\t.val 3=.ptr 0 0 0/\t.val 4=.ptr 1 0 0/\t.val 7=.int .i64 (i:Nat)/\o.get 0=some (aR 0 [ns,fs,mm,cs])/\o.get 1=some (aR 0 [os,ts,us,is,uu])/\2<=n/\i<=xs.length/\nQ S fs.els.length os.els.length xs=(decide (xs.length<=40)&&(xs.drop i).all (NF S fs.els.length os.els.length))) (fun i=>xs.length-i) 0 ⟨_,_,_,_,rfl,aG,aG,aG,eT,qC,aG,aD,Nat.zero_le _,rfl⟩ ?_;rintro i _ ⟨t,n,low,o,rfl,A,J,Q,B,D,P,hn,hi,f⟩;have C:=dQ (show 0<n by omega);have O:=dQ (show 1<n by omega)
 rcases Nat.lt_or_ge i xs.length with G | V
 ·obtain ⟨y,E,hm,hg,hd,l,hw,F⟩:=bI (fun x h=>tk_fr.len h) Z hl G
  rw [hd,List.all_cons]at f
  have p:=fun {d:Option AV}=>tk_fr.pf E (d:=d)
  obtain ⟨_,T,vv,rfl,⟨m,rfl⟩,he,hv⟩:=E;have M:=(tu_vals _ he).2;have N:=(tu_vals _ hv).2;rw [aLt]at f;by_cases I:((i:Nat):Int)<=40
  ·cases k1:inR m 0 ((S.length:Int)-1) with
   | false=>
     rw [k1,Bool.false_and,Bool.false_and,Bool.false_and,Bool.and_false]at f;exact aQp @A @J @B @D @C @gL @M @N k.lX k.iX @l @F @p @I c.lX c.sX @R @aH @k1 @f
   | true=>
     obtain ⟨z,U,_,hz,q,u,_,_⟩:=mW tk_node X k1;rw [show eF S m=z from hz]at f;have ha:uS eH (fun n=>.int .i64 (eJ n)) [z]=_:=cI U;have w:lD (pg ns fs mm cs) (wd os ts us is uu) fs.els.length os.els.length [pg ns fs mm cs,wd os ts us is uu,T,.int .i64 30]=some (.bool (eI fs.els.length os.els.length 30 T.els)):=LK ⟨rfl,rfl,he,_,rfl⟩;have H:lD (pg ns fs mm cs) (wd os ts us is uu) fs.els.length os.els.length [pg ns fs mm cs,wd os ts us is uu,vv,.int .i64 (eJ z)]=some (.bool (eI fs.els.length os.els.length (eJ z) vv.els)):=LK ⟨rfl,rfl,hv,_,rfl⟩;rw [k1,Bool.true_and]at f
     cases k2:eI fs.els.length os.els.length 30 T.els with
     | false=>
       rw [k2,Bool.false_and,Bool.false_and,Bool.and_false]at f;simp +contextual +decide (maxSteps:=1000000) only [↓ wP,wQ,tf,Nat.reduceAdd,wS,A,J,Q,B,D,P,C,O,gL,M,N,k.len,k.idx,l,F,p,I,c.len,c.stab,R,aH,k1,w,k2,f]
     | true=>
       rw [k2,Bool.true_and]at f
       cases k3:eI fs.els.length os.els.length (eJ z) vv.els with
       | false=>
         rw [k3,Bool.false_and,Bool.and_false]at f;simp +contextual +decide (maxSteps:=1000000) only [↓ wP,wQ,tf,Nat.reduceAdd,wS,A,J,Q,B,D,P,C,O,gL,M,N,k.len,k.idx,l,F,p,I,c.len,c.idx,c.stab,R,aH,k1,w,k2,q,u,ha,H,k3,f]
       | true=>
         rw [k3,Bool.true_and]at f;simp +contextual +decide (maxSteps:=1000000) only [↓ wP,wQ,tf,Nat.reduceAdd,wS,A,J,Q,B,D,P,C,O,gL,M,N,k.len,k.idx,l,F,p,I,c.len,c.idx,c.stab,R,aH,k1,w,k2,q,u,ha,H,k3,hw];exact ⟨i+1,by show _-_<_-_;omega,_,_,_,_,rfl,aN @A,aN @J,aN @Q,aG,ag2 @D @C,ag2 @P @O,aD,G,f⟩
  ·have v:(((xs.length:Nat):Int)<=40)=False:=eq_false aD
   rw [decide_eq_false (show ¬ xs.length<=40 by omega),Bool.false_and]at f;exact OQ @A @B k.lX @F @I @v @f
 ·obtain rfl:i=xs.length:=Nat.le_antisymm hi V
  rw [List.drop_length,List.all_nil,Bool.and_true]at f;have v:(((xs.length:Nat):Int)<=40)=(xs.length<=40):=propext aD;exact RD @A @B k.lX @bG @f @v
theorem aLu {xs:List AV} {x:AV} {i M:Nat} (b:i<M) (a:xs.drop i=x::xs.drop (i+1)):(xs.take M).drop i=x::(xs.take M).drop (i+1):=by
 rw [List.drop_take,a,List.drop_take,show M-i=(M-(i+1))+1 by omega,List.take_succ_cons]
abbrev wV (P ns:AV):List AV->Option AV:=sg3 (fun a b c=>a=P/\TSl (TFn ns) b/\∃ m:Nat,c=.int .i64 m/\m<=b.els.length) fun _ b c=>.bool ((b.els.take c.num.toNat).all (kB ns.els))
set_option maxHeartbeats 2000000 in
theorem OO {ns fs mm cs:AV} (J:TSl eH ns) (Z:fZ fs) (h3:cS mm) (h4:rT cs):Abs.Ok Tryz.prog 93 (wV (pg ns fs mm cs) ns):=ok3 fun a x b ⟨ea,hx,m,eb,hm⟩=>by
 subst ea;subst eb;have P:=(cH _ ⟨_,_,_,_,rfl,J,Z,h3,h4⟩:UnderE 0 (pg ns fs mm cs)/\_).1;have c1:=(dZ _ J).2;have c2:=(aT _ Z).2;have c3:=(tu_int _ h3).2;have c4:=(eA _ h4).2;have Q:=(hG (T:=TFn ns) (fun a h=>(tk_fr a h.1).1) x hx).1;obtain ⟨xs,E,R⟩:=hx;obtain ⟨F,p,O⟩:=J;have hl:=E.2;rw [E.els]at hm;refine aF (L:=[ent 131 (uS eH fun n=>.int .i64 (eJ n))]) (elist_cons rAsks_ok.ent aE) (fun r=>(bif Nat.beq r 4 then [15] else [],[])) (by kernel_rfl) Tryz.func93 Tryz.ntmps93 Tryz.results93 rfl rfl (aA P.und (aA Q.und (aA aS aC))) aI ?_;rw [E.els,p.els,show (AV.int .i64 (m:Nat)).num.toNat=m from Int.toNat_natCast m];refine IK @c1 @c2 @c3 @c4 ?_;refine aM (fun i e=>∃ t n low o,e=⟨30,none,93,t,[],⟨n,low,o⟩,.no⟩/\t.val 1=x/\t.val 2=.int .i64 (m:Nat)/\t.val 3=.ptr 0 0 0/\t.val 7=.int .i64 (i:Nat)/\o.get 0=some (aR 0 [ns,fs,mm,cs])/\1<=n/\i<=m/\(xs.take m).all (kB F)=((xs.take m).drop i).all (kB F)) (fun i=>m-i) 0 ⟨_,_,_,_,rfl,aG,aG,aG,eT,aG,aD,Nat.zero_le _,rfl⟩ ?_;rintro i _ ⟨t,n,low,o,rfl,S,H,U,V,I,hn,hi,v⟩;have Y:=dQ (show 0<n by omega)
 rcases Nat.lt_or_ge i m with D | N
 ·obtain ⟨y,l,aa,hg,hd,B,hw,hc⟩:=bI (fun x h=>tk_fr.len h.1) R hl (show i<xs.length by omega)
  rw [aLu D hd,List.all_cons]at v
  have ab:=fun {d:Option AV}=>tk_fr.pf l.1 (d:=d)
  have c:(((i:Nat):Int)<((m:Nat):Int))=True:=eq_true aD;obtain ⟨l,A⟩:=l;obtain ⟨_,ev,vv,rfl,⟨q,rfl⟩,he,hv⟩:=l;have ce:=(tu_vals _ he).2;have X:=(tu_vals _ hv).2;rw [p.els]at A;obtain ⟨z,M,_,hz,C,u,_,_⟩:=mW tk_node O A;have f:∀ {j:IntKind} {d:Option AV},vP (some 4) F (.int j q) d=some (.pf z):=C;have ha:uS eH (fun n=>.int .i64 (eJ n)) [z]=_:=cI M;obtain ⟨G,k,_⟩:=hv
  have ho:kB F (.agg [.int .i64 q,ev,vv])=decide (((G.length:Nat):Int)<eJ z):=by
   have:eF F q=z:=hz;simp only [kB,AV.fld,AV.num,List.getD_cons_zero,List.getD_cons_succ,k.els,this]
  rw [ho]at v;by_cases k1:((G.length:Nat):Int)<eJ z
  ·have w:(((G.length:Nat):Int) ≥ eJ z)=False:=eq_false aD
   rw [decide_eq_true k1,Bool.true_and]at v;refine aGj @S @H @U @V @I @Y @gL @X E.iX @B @c k.lX k.sX p.iX @f @u @ha @w @hw ?_;exact ⟨i+1,by show _-_<_-_;omega,_,_,_,_,rfl,aN @S,aN @H,aN @U,aG,by simp +decide only [I],aD,D,v⟩
  ·have w:(((G.length:Nat):Int) ≥ eJ z)=True:=eq_true aD
   have k2:(eJ z<=((G.length:Nat):Int))=True:=eq_true aD;rw [decide_eq_false k1,Bool.false_and]at v;exact aLz @S @H @U @V @I @Y @gL @X E.iX @B @c k.lX k.sX p.iX @f @u @ha @w @v
 ·obtain rfl:i=m:=Nat.le_antisymm hi N
  rw [List.drop_eq_nil_of_le (by simp;omega),List.all_nil]at v;have c:(((i:Nat):Int)<((i:Nat):Int))=False:=eq_false aD;exact az4 @H @V @c @v
end
end
end Go.Proofs.YtdipddlhenoglaaGreat
