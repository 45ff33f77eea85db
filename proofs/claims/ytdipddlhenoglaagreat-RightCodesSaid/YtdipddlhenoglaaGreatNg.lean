/-
  The program of meanings: objects.
-/
import Derived.Test.YtdipddlhenoglaaGreatNc
set_option linter.unusedVariables false
set_option linter.unusedSimpArgs false
namespace Go.Proofs.YtdipddlhenoglaaGreat
open Go.Abs Go Go.Abs.TryzF
noncomputable section
set_option maxRecDepth 10000
section
variable {ns fs mm cs os ts us is uu:AV}
def aGt (ns fs os r:AV):List AV->Option AV:=wX (fun a b=>a=r/\AE b) fun _ b=>.bool (mI ns.els fs.els.length os.els.length (b.fld 1).num (b.fld 2).els (b.fld 3).els)
theorem aGu (h:RW ns fs mm cs os ts us is uu):Abs.Ok Tryz.prog 244 (aGt ns fs os (rn ns fs mm cs os ts us is uu)):=
 ok2 fun a b ⟨e,c⟩=>by subst e;obtain ⟨_,_,v,g,rfl,⟨k,rfl⟩,⟨n,rfl⟩,f,d⟩:=c;exact aMn h k n v g f d
theorem aGv {ns fs os r v g:AV} {k n:Int} (b:lP v) (a:EX g):aGt ns fs os r [r,.agg [.int .i64 k,.int .i64 n,v,g]]=some (.bool (mI ns.els fs.els.length os.els.length n v.els g.els)):=
 sg2_eq ⟨rfl,_,_,_,_,rfl,⟨_,rfl⟩,⟨_,rfl⟩,b,a⟩
theorem nQ {k:Nat} {D:AV->Prop} {xs:List AV} (e:Tk k D) (c:∀ x∈xs,D x) {n:Int} (h:inR n 0 ((xs.length:Int)-1)=true):
 ∃ y,D y/\y∈xs/\xs.getD n.toNat .top=y/\(∀ {q:IntKind} {d:Option AV},wY (some k) xs (.int q n) d=some (.pf y))/\(∀ {d:Option AV},pfC (some (some k)) y d=some y)/\0<=n/\n.toNat<xs.length:=by
 simp only [inR,Bool.and_eq_true,decide_eq_true_eq]at h
 have a:n.toNat<xs.length:=by omega
 have f:=List.getElem?_eq_getElem a;have b:=List.getElem_mem a;exact ⟨_,c _ b,b,by simp [List.getD_eq_getElem?_getD,f],fun {q d}=>rB h.1 f (e.len (c _ b)),fun {d}=>e.pf (c _ b),h.1,a⟩
set_option maxHeartbeats 4000000 in
theorem aBh (h:RW ns fs mm cs os ts us is uu) (k n:Int) (vs S:AV) (Q:lP vs) (J:EX S):
 Abs.Returns Tryz.prog 183 [rn ns fs mm cs os ts us is uu,.agg [.int .i64 k,.int .i64 n,vs,S]] (.bool (kM ns.els cs.els fs.els.length os.els.length k n vs.els S.els)):=by
 have aa:UnderE 0 (.agg [.int .i64 k,.int .i64 n,vs,S]):=(tk_ob _ ⟨_,_,_,_,rfl,⟨_,rfl⟩,⟨_,rfl⟩,Q,J⟩).1;have v:=(tu_vals _ Q).2;have u:=(gZ _ J).2;have ht:=aGv (ns:=ns) (fs:=fs) (os:=os) (r:=rn ns fs mm cs os ts us is uu) (k:=k) (n:=n) Q J;have a1:uS (qZ (rn ns fs mm cs os ts us is uu)) (jM fs.els.length os.els.length) [vs,qZ (rn ns fs mm cs os ts us is uu)]=_:=sg2_eq ⟨Q,rfl⟩;obtain ⟨xv,f,_⟩:=Q;have Y:=EV (ns:=ns) (fs:=fs) (os:=os) (r:=rn ns fs mm cs os ts us is uu) (l:=0) J aC aC;obtain ⟨C,a,Z⟩:=J;obtain ⟨T,w,O⟩:=h.ns;obtain ⟨xc,E,X⟩:=h.cs;obtain ⟨R,c2,c3,c4,c5,c6,c7,c8,c9⟩:=h.cells;have w1:=bY w.2;have w2:=bY E.2;rw [f.els]at ht a1 ⊢;rw [a.els]at ht Y ⊢
 refine aF (L:=[ent 187 gH,ent 241 (uS (qZ (rn ns fs mm cs os ts us is uu)) (jM fs.els.length os.els.length)),ent 243 (CS ns fs os (rn ns fs mm cs os ts us is uu)),ent 244 (aGt ns fs os (rn ns fs mm cs os ts us is uu))])
  (elist_cons within_ok.ent (elist_cons (XU h).ent (elist_cons (EU h).ent (elist_cons (aGu h).ent aE)))) (fun r=>(bif Nat.beq r 6 then [11] else bif Nat.beq r 8 then [11] else bif Nat.beq r 14 then [19] else [],[])) (by kernel_rfl) Tryz.func183 Tryz.ntmps183 Tryz.results183 rfl rfl (aA h.und.und (aA aa.und aD)) aJ ?_
 cases c:xv.all (jM fs.els.length os.els.length) with
 | false=>simp +contextual +decide (maxSteps:=1000000) only [↓ wP,wQ,tf,Nat.reduceAdd,wS,v,u,a1,c];simp +decide only [wT,AV.fld,AV.num,kM,c]
 | true=>
 by_cases k1:k=1
 ·subst k1
  by_cases e:((C.length:Nat):Int)=0
  ·cases o:inR n 0 ((xc.length:Int)-1) with
   | false=>simp +contextual +decide (maxSteps:=1000000) only [↓ wP,wQ,tf,Nat.reduceAdd,wS,v,u,a1,c,a.len,e,E.len,E.stab,w2,aH,o,c4];simp +decide only [wT,AV.fld,AV.num,kM,c,E.els,e,o]
   | true=>
     obtain ⟨y,I,_,G,A,P,_,_⟩:=nQ tk_con X o;obtain ⟨_,_,rfl,⟨b,rfl,_⟩,⟨m,rfl⟩⟩:=I;simp +contextual +decide (maxSteps:=1000000) only [↓ wP,wQ,tf,Nat.reduceAdd,wS,v,u,a1,c,a.len,e,E.len,E.stab,E.idx,w2,aH,o,A,f.len,f.stab,c4];simp +decide only [wT,AV.fld,AV.num,kM,c,E.els,G,e,o]
  ·simp +contextual +decide (maxSteps:=1000000) only [↓ wP,wQ,tf,Nat.reduceAdd,wS,v,u,a1,c,a.len,e];simp +decide only [wT,AV.fld,AV.num,kM,c,e]
 by_cases k2:k=2
 ·subst k2
  by_cases e:((C.length:Nat):Int)=0
  ·cases o:inR n 0 ((T.length:Int)-1) with
   | false=>simp +contextual +decide (maxSteps:=1000000) only [↓ wP,wQ,tf,Nat.reduceAdd,wS,v,u,a1,c,a.len,e,w.len,w.stab,w1,aH,o,R];simp +decide only [wT,AV.fld,AV.num,kM,c,w.els,e,o]
   | true=>
     obtain ⟨y,I,_,G,A,P,_,_⟩:=nQ tk_node O o;obtain ⟨_,_,_,_,rfl,⟨op,rfl⟩,⟨m,rfl⟩,q1,q2⟩:=I;have e1:=(aT _ q1).2;have e2:=(eG _ q2).2;by_cases B:op=5
     ·simp +contextual +decide (maxSteps:=1000000) only [↓ wP,wQ,tf,Nat.reduceAdd,wS,v,u,a1,c,a.len,e,w.len,w.stab,w.idx,w1,aH,o,A,f.len,f.stab,R,B]
      simp +decide only [wT,AV.fld,AV.num,kM,c,w.els,dZ,G,e,o,B]
     ·simp +contextual +decide (maxSteps:=1000000) only [↓ wP,wQ,tf,Nat.reduceAdd,wS,v,u,a1,c,a.len,e,w.len,w.stab,w.idx,w1,aH,o,A,R,B]
      simp +decide only [wT,AV.fld,AV.num,kM,c,w.els,dZ,G,e,o,B]
  ·simp +contextual +decide (maxSteps:=1000000) only [↓ wP,wQ,tf,Nat.reduceAdd,wS,v,u,a1,c,a.len,e];simp +decide only [wT,AV.fld,AV.num,kM,c,e]
 by_cases k3:k=3
 ·subst k3
  by_cases e:((C.length:Nat):Int)=0
  ·by_cases o:n=0
   ·simp +contextual +decide (maxSteps:=1000000) only [↓ wP,wQ,tf,Nat.reduceAdd,wS,v,u,a1,c,a.len,e,o,f.len];simp +decide only [wT,AV.fld,AV.num,kM,c,e]
   ·simp +contextual +decide (maxSteps:=1000000) only [↓ wP,wQ,tf,Nat.reduceAdd,wS,v,u,a1,c,a.len,e,o];simp +decide only [wT,AV.fld,AV.num,kM,c,o]
  ·simp +contextual +decide (maxSteps:=1000000) only [↓ wP,wQ,tf,Nat.reduceAdd,wS,v,u,a1,c,a.len,e];simp +decide only [wT,AV.fld,AV.num,kM,c,e]
 by_cases k4:k=4
 ·subst k4
  by_cases e:((C.length:Nat):Int)=0
  ·by_cases o:n=0
   ·simp +contextual +decide (maxSteps:=1000000) only [↓ wP,wQ,tf,Nat.reduceAdd,wS,v,u,a1,c,a.len,e,o,f.len];simp +decide only [wT,AV.fld,AV.num,kM,c,e]
   ·simp +contextual +decide (maxSteps:=1000000) only [↓ wP,wQ,tf,Nat.reduceAdd,wS,v,u,a1,c,a.len,e,o];simp +decide only [wT,AV.fld,AV.num,kM,c,o]
  ·simp +contextual +decide (maxSteps:=1000000) only [↓ wP,wQ,tf,Nat.reduceAdd,wS,v,u,a1,c,a.len,e];simp +decide only [wT,AV.fld,AV.num,kM,c,e]
 by_cases k5:k=5
 ·subst k5
  by_cases o:n=0
  ·by_cases B:((xv.length:Nat):Int)=0
   ·by_cases e:((C.length:Nat):Int) > 0
    ·cases H:fN ns.els fs.els.length os.els.length C 0 with
     | false=>simp +contextual +decide (maxSteps:=1000000) only [↓ wP,wQ,tf,Nat.reduceAdd,wS,v,u,a1,c,a.len,a.stab,f.len,f.stab,e,o,B,Y,H];simp +decide only [wT,AV.fld,AV.num,kM,H]
     | true=>
       have g0:inR 0 0 ((C.length:Int)-1)=true:=by simp only [inR,Bool.and_eq_true,decide_eq_true_eq];omega
       obtain ⟨y,I,ac,G,A,P,_,_⟩:=nQ tk_fr Z g0;have D:=H;simp only [fN,pC,Bool.and_eq_true]at D;have M:=tH (List.all_eq_true.1 D.1.2 y ac);obtain ⟨_,_,_,rfl,⟨m,rfl⟩,q1,q2⟩:=I;rw [w.els]at M;obtain ⟨z,V,_,hz,N,ae,_,_⟩:=nQ tk_node O M;obtain ⟨_,_,_,_,rfl,⟨op,rfl⟩,⟨m',rfl⟩,q3,q4⟩:=V;have F:∀ {q:IntKind} {d:Option AV},wY (some 4) T (.int q m) d=some (.pf (.agg [.int .i64 op,.int .i64 m',_,_])):=N;simp +contextual +decide (maxSteps:=1000000) only [↓ wP,wQ,tf,Nat.reduceAdd,wS,v,u,a1,c,a.len,a.stab,a.idx,f.len,f.stab,e,o,B,Y,H,A,w.idx,F,R]
       have U:fN T fs.els.length os.els.length C 0=true:=by rw [<-w.els];exact H
       have ab:C.getD 0 .top=.agg [.int .i64 m,_,_]:=G;have ad:T.getD m.toNat .top=.agg [.int .i64 op,.int .i64 m',_,_]:=hz;simp +decide only [wT,AV.fld,AV.num,kM,c,e,B,U,w.els,dZ,ab,ad]
    ·simp +contextual +decide (maxSteps:=1000000) only [↓ wP,wQ,tf,Nat.reduceAdd,wS,v,u,a1,c,a.len,a.stab,f.len,f.stab,e,o,B];simp +decide only [wT,AV.fld,AV.num,kM,e]
   ·simp +contextual +decide (maxSteps:=1000000) only [↓ wP,wQ,tf,Nat.reduceAdd,wS,v,u,a1,c,a.len,f.len,f.stab,o,B];simp +decide only [wT,AV.fld,AV.num,kM,B]
  ·simp +contextual +decide (maxSteps:=1000000) only [↓ wP,wQ,tf,Nat.reduceAdd,wS,v,u,a1,c,a.len,o];simp +decide only [wT,AV.fld,AV.num,kM,o]
 by_cases k6:k=6
 ·subst k6
  simp +contextual +decide (maxSteps:=1000000) only [↓ wP,wQ,tf,Nat.reduceAdd,wS,v,u,a1,c,a.len,ht];simp +decide only [wT,AV.fld,AV.num,kM,c]
 simp +contextual +decide (maxSteps:=1000000) only [↓ wP,wQ,tf,Nat.reduceAdd,wS,v,u,a1,c,a.len,k1,k2,k3,k4,k5,k6];simp +decide only [wT,AV.fld,AV.num,kM,k1,k2,k3,k4,k5,k6]
end
theorem rIn6_ok:Abs.Ok Tryz.prog 55 gH:=by
 intro args v b;unfold gH at b;split at b<;>cases b;rename_i n l h;refine aF (L:=[]) aE aN (by kernel_rfl) Tryz.func55 Tryz.ntmps55 Tryz.results55 rfl rfl (aA aV (aA aV (aA aV aD))) aJ ?_;by_cases a:l<=n
 ·refine wU @a ?_
  simp [inR,a]
 ·refine wU @a ?_
  simp [inR,a]
set_option maxHeartbeats 4000000 in
theorem rAsks_ok:Abs.Ok Tryz.prog 131 (vJ eL fun n=>.int .i64 (eX n)):=AH fun x hx=>by
 have hux:=(tk_node x hx).1;obtain ⟨_,_,ki,pa,rfl,⟨k,rfl⟩,⟨n,rfl⟩,hk,hp⟩:=hx;have ck:=(aT _ hk).2;have cp:=(eG _ hp).2;obtain ⟨xs,hks,_⟩:=hk;refine aF (L:=[]) aE aN (by kernel_rfl) Tryz.func131 Tryz.ntmps131 Tryz.results131 rfl rfl (aA hux.und aD) aV ?_
 rcases ET k with rfl | rfl | rfl | rfl | rfl | rfl | rfl | rfl | rfl | rfl | rfl | rfl | rfl | rfl | rfl | rfl | rfl | rfl | rfl | h
 case inr.inr.inr.inr.inr.inr.inr.inr.inl=>refine GU @ck @cp hks.lX ?_;simp [eX,AV.fld,AV.num,hks.els]
 case inr.inr.inr.inr.inr.inr.inr.inr.inr.inr.inr.inr.inr.inr.inr.inr.inr.inr.inr=>refine GU @ck @cp @h ?_;simp [eX,AV.fld,AV.num,h]
 all_goals refine JA @ck @cp ?_;rfl
section
variable {ns fs mm cs os ts us is uu:AV}
abbrev pg (ns fs mm cs:AV):AV:=.agg [ns,fs,mm,cs]
abbrev wd (os ts us is uu:AV):AV:=.agg [os,ts,us,is,uu]
theorem RW.pg (h:RW ns fs mm cs os ts us is uu):dD (pg ns fs mm cs):=⟨_,_,_,_,rfl,h.ns,h.fs,h.mm,h.cs⟩
theorem RW.wd (h:RW ns fs mm cs os ts us is uu):RZ (wd os ts us is uu):=⟨_,_,_,_,_,rfl,h.os,h.ts,h.us,h.is,h.uu⟩
abbrev LU (P W:AV) (d no:Int):List AV->Option AV:=sg3 (fun a b c=>a=P/\b=W/\tJ c) fun _ _ c=>.bool (jM d no c)
set_option maxHeartbeats 1000000 in
theorem aBi (h:RW ns fs mm cs os ts us is uu):Abs.Ok Tryz.prog 132 (LU (pg ns fs mm cs) (wd os ts us is uu) fs.els.length os.els.length):=ok3 fun a b x ⟨F,G,E⟩=>by
 subst F;subst G;have w:=(tk_val x E).1;obtain ⟨_,_,rfl,⟨k,rfl⟩,⟨n,rfl⟩⟩:=E;obtain ⟨J,u,_⟩:=h.fs;obtain ⟨M,v,_⟩:=h.os;obtain ⟨c,d,e,f,l,m,o,q,r⟩:=h.cells;have H:=bY u.2;have I:=bY v.2;refine aF (L:=[ent 55 gH]) (elist_cons rIn6_ok.ent aE) aN (by kernel_rfl) Tryz.func132 Tryz.ntmps132 Tryz.results132 rfl rfl (aA (cL _ h.pg).1.und (aA (pX _ h.wd).1.und (aA w.und aD))) aJ ?_;rw [u.els,v.els,PI];by_cases y:k=1
 ·subst y;refine rA @aH @c @d @e @f @l @m @o @q @r ?_;rfl
 by_cases A:k=2
 ·subst A;exact LX @aH @c @d @e @f @l @m @o @q @r
 by_cases B:k=3
 ·subst B;exact az9 @c @d @e @f @l @m @o @q @r
 by_cases C:k=4
 ·subst C;exact vI @aH u.lX @H @c @d @e @f @l @m @o @q @r
 by_cases D:k=5
 ·subst D;exact vI @aH v.lX @I @c @d @e @f @l @m @o @q @r
 exact PN @y @A @B @C @D @c @d @e @f @l @m @o @q @r
abbrev lO (P W:AV) (e no:Int):List AV->Option AV:=sg4 (fun a b c d=>a=P/\b=W/\lP c/\dA d) fun _ _ c d=>.bool (eW e no d.num c.els)
theorem wO (h:RW ns fs mm cs os ts us is uu):Abs.Ok Tryz.prog 94 (lO (pg ns fs mm cs) (wd os ts us is uu) fs.els.length os.els.length):=ok4 fun a b x y ⟨ea,eb,R,hy⟩=>by
 subst ea;subst eb;obtain ⟨c,rfl⟩:=hy;have H:=(tu_vals x R).1;obtain ⟨S,T,U,V,X,Y,Z,c8,c9⟩:=h.cells;obtain ⟨xs,k,I⟩:=R;have hl:=k.2;refine aF (L:=[ent 132 (LU (pg ns fs mm cs) (wd os ts us is uu) fs.els.length os.els.length)]) (elist_cons (aBi h).ent aE) (fun r=>(bif Nat.beq r 4 then [6] else [],[])) (by kernel_rfl) Tryz.func94 Tryz.ntmps94 Tryz.results94 rfl rfl (aA (cL _ h.pg).1.und (aA (pX _ h.wd).1.und (aA H.und (aA aV aD)))) aJ ?_;rw [k.els,show (AV.int .i64 c).num=c from rfl];refine UO @S @T @U @V @X @Y @Z @c8 @c9 ?_;refine aL (fun i e=>∃ t n low o,e=⟨33,none,94,t,[],⟨n,low,o⟩,.no⟩/\t.val 2=x/\t.val 3=.int .i64 c/\t.val 4=.ptr 0 0 0/\t.val 5=.ptr 1 0 0/\t.val 9=.int .i64 (i:Nat)/\o.get 0=some (aQ 0 [ns,fs,mm,cs])/\o.get 1=some (aQ 0 [os,ts,us,is,uu])/\2<=n/\i<=xs.length/\eW fs.els.length os.els.length c xs=(decide ((xs.length:Int)<=c)&&(xs.drop i).all (jM fs.els.length os.els.length))) (fun i=>xs.length-i) 0 ⟨_,_,_,_,rfl,aG,aG,aG,aG,eA,qO,aG,aC,Nat.zero_le _,rfl⟩ ?_;rintro i _ ⟨t,n,low,o,rfl,w,A,M,N,C,D,E,hn,hi,f⟩;have O:=eM (show 0<n by omega);have P:=eM (show 1<n by omega)
 rcases Nat.lt_or_ge i xs.length with u | G
 ·obtain ⟨y,l,hm,hg,hd,q,hw,F⟩:=bB (fun x h=>tk_val.len h) I hl u
  rw [hd,List.all_cons]at f
  have v:=fun {d:Option AV}=>tk_val.pf l (d:=d)
  have Q:LU (pg ns fs mm cs) (wd os ts us is uu) fs.els.length os.els.length [pg ns fs mm cs,wd os ts us is uu,y]=_:=kP ⟨rfl,rfl,l⟩;by_cases J:((i:Nat):Int)<=c
  ·cases B:jM fs.els.length os.els.length y with
   | false=>
     rw [B,Bool.false_and,Bool.and_false]at f;exact aQq @w @A @M @N @C @D @E @O @P k.lX k.iX @q @F @v @J @Q @B @f
   | true=>
     rw [B,Bool.true_and]at f;refine HB @w @A @M @N @C @D @E @O @P k.lX k.iX @q @F @v @J @Q @B @hw ?_;exact ⟨i+1,by show _-_<_-_;omega,_,_,_,_,rfl,aM @w,aM @A,aM @M,aM @N,aG,by simp +decide only [D],by simp +decide only [E],aC,u,f⟩
  ·have m:(((xs.length:Nat):Int)<=c)=False:=eq_false aC
   rw [decide_eq_false (fun h=>(m ▸ h:False)),Bool.false_and]at f;exact az8 @w @A @C k.lX @F @J @m @f
 ·obtain rfl:i=xs.length:=Nat.le_antisymm hi G
  rw [List.drop_length,List.all_nil,Bool.and_true]at f;exact az6 @w @A @C k.lX @bH @f
end
section
variable {ns fs mm cs os ts us is uu:AV}
abbrev tF (P W:AV) (e:List AV) (d no:Int):List AV->Option AV:=sg3 (fun a b c=>a=P/\b=W/\EX c) fun _ _ c=>.bool (pC e d no c.els)
theorem aMk {b:List AV} {a no n:Int} {e v:AV}:UR b a no (.agg [.int .i64 n,e,v])=(inR n 0 ((b.length:Int)-1)&&eW a no 30 e.els&&eW a no (eX (dZ b n)) v.els):=rfl
set_option maxHeartbeats 4000000 in
theorem EQ (h:RW ns fs mm cs os ts us is uu):Abs.Ok Tryz.prog 92 (tF (pg ns fs mm cs) (wd os ts us is uu) ns.els fs.els.length os.els.length):=ok3 fun a b x ⟨ea,eb,hx⟩=>by
 subst ea;subst eb;have Z:=(gZ x hx).1;obtain ⟨c1,c2,c3,c4,c5,c6,c7,c8,c9⟩:=h.cells;obtain ⟨xs,k,aa⟩:=hx;obtain ⟨T,c,Y⟩:=h.ns;have hl:=k.2;have S:=bY c.2;refine aF (L:=[ent 55 gH,ent 131 (vJ eL fun n=>.int .i64 (eX n)),ent 94 (lO (pg ns fs mm cs) (wd os ts us is uu) fs.els.length os.els.length)]) (elist_cons rIn6_ok.ent (elist_cons rAsks_ok.ent (elist_cons (wO h).ent aE))) (fun r=>(bif Nat.beq r 5 then [6,13,27,28] else [],[])) (by kernel_rfl) Tryz.func92 Tryz.ntmps92 Tryz.results92 rfl rfl (aA (cL _ h.pg).1.und (aA (pX _ h.wd).1.und (aA Z.und aD))) aJ ?_;rw [k.els,c.els];refine UO @c1 @c2 @c3 @c4 @c5 @c6 @c7 @c8 @c9 ?_;refine aL (fun i e=>∃ t n low o,e=⟨57,none,92,t,[],⟨n,low,o⟩,.no⟩/\t.val 2=x/\t.val 3=.ptr 0 0 0/\t.val 4=.ptr 1 0 0/\t.val 7=.int .i64 (i:Nat)/\o.get 0=some (aQ 0 [ns,fs,mm,cs])/\o.get 1=some (aQ 0 [os,ts,us,is,uu])/\2<=n/\i<=xs.length/\pC T fs.els.length os.els.length xs=(decide (xs.length<=40)&&(xs.drop i).all (UR T fs.els.length os.els.length))) (fun i=>xs.length-i) 0 ⟨_,_,_,_,rfl,aG,aG,aG,eA,qO,aG,aC,Nat.zero_le _,rfl⟩ ?_;rintro i _ ⟨t,n,low,o,rfl,B,M,R,C,E,Q,hn,hi,f⟩;have D:=eM (show 0<n by omega);have P:=eM (show 1<n by omega)
 rcases Nat.lt_or_ge i xs.length with H | X
 ·obtain ⟨y,F,hm,hg,hd,l,hw,G⟩:=bB (fun x h=>tk_fr.len h) aa hl H
  rw [hd,List.all_cons]at f
  have q:=fun {d:Option AV}=>tk_fr.pf F (d:=d)
  obtain ⟨_,U,vv,rfl,⟨m,rfl⟩,he,hv⟩:=F;have N:=(tu_vals _ he).2;have O:=(tu_vals _ hv).2;rw [aMk]at f;by_cases J:((i:Nat):Int)<=40
  ·cases k1:inR m 0 ((T.length:Int)-1) with
   | false=>
     rw [k1,Bool.false_and,Bool.false_and,Bool.false_and,Bool.and_false]at f;exact aQr @B @M @C @E @D @eP @N @O k.lX k.iX @l @G @q @J c.lX c.sX @S @aH @k1 @f
   | true=>
     obtain ⟨z,V,_,hz,u,v,_,_⟩:=nQ tk_node Y k1;rw [show dZ T m=z from hz]at f;have ha:vJ eL (fun n=>.int .i64 (eX n)) [z]=_:=cR V;have A:lO (pg ns fs mm cs) (wd os ts us is uu) fs.els.length os.els.length [pg ns fs mm cs,wd os ts us is uu,U,.int .i64 30]=some (.bool (eW fs.els.length os.els.length 30 U.els)):=MD ⟨rfl,rfl,he,_,rfl⟩;have I:lO (pg ns fs mm cs) (wd os ts us is uu) fs.els.length os.els.length [pg ns fs mm cs,wd os ts us is uu,vv,.int .i64 (eX z)]=some (.bool (eW fs.els.length os.els.length (eX z) vv.els)):=MD ⟨rfl,rfl,hv,_,rfl⟩;rw [k1,Bool.true_and]at f
     cases k2:eW fs.els.length os.els.length 30 U.els with
     | false=>
       rw [k2,Bool.false_and,Bool.false_and,Bool.and_false]at f;simp +contextual +decide (maxSteps:=1000000) only [↓ wP,wQ,tf,Nat.reduceAdd,wS,B,M,R,C,E,Q,D,P,eP,N,O,k.len,k.idx,l,G,q,J,c.len,c.stab,S,aH,k1,A,k2,f]
     | true=>
       rw [k2,Bool.true_and]at f
       cases k3:eW fs.els.length os.els.length (eX z) vv.els with
       | false=>
         rw [k3,Bool.false_and,Bool.and_false]at f;simp +contextual +decide (maxSteps:=1000000) only [↓ wP,wQ,tf,Nat.reduceAdd,wS,B,M,R,C,E,Q,D,P,eP,N,O,k.len,k.idx,l,G,q,J,c.len,c.idx,c.stab,S,aH,k1,A,k2,u,v,ha,I,k3,f]
       | true=>
         rw [k3,Bool.true_and]at f;simp +contextual +decide (maxSteps:=1000000) only [↓ wP,wQ,tf,Nat.reduceAdd,wS,B,M,R,C,E,Q,D,P,eP,N,O,k.len,k.idx,l,G,q,J,c.len,c.idx,c.stab,S,aH,k1,A,k2,u,v,ha,I,k3,hw];exact ⟨i+1,by show _-_<_-_;omega,_,_,_,_,rfl,aM @B,aM @M,aM @R,aG,ag2 @E @D,ag2 @Q @P,aC,H,f⟩
  ·have w:(((xs.length:Nat):Int)<=40)=False:=eq_false aC
   rw [decide_eq_false (show ¬ xs.length<=40 by omega),Bool.false_and]at f;exact XX @B @C k.lX @G @J @w @f
 ·obtain rfl:i=xs.length:=Nat.le_antisymm hi X
  rw [List.drop_length,List.all_nil,Bool.and_true]at f;have w:(((xs.length:Nat):Int)<=40)=(xs.length<=40):=propext aC;exact az6 @B @C k.lX @bH @f @w
theorem aMl {xs:List AV} {x:AV} {i M:Nat} (b:i<M) (a:xs.drop i=x::xs.drop (i+1)):(xs.take M).drop i=x::(xs.take M).drop (i+1):=by
 rw [List.drop_take,a,List.drop_take,show M-i=(M-(i+1))+1 by omega,List.take_succ_cons]
abbrev wR (P ns:AV):List AV->Option AV:=sg3 (fun a b c=>a=P/\TSl (TFn ns) b/\∃ m:Nat,c=.int .i64 m/\m<=b.els.length) fun _ b c=>.bool ((b.els.take c.num.toNat).all (lQ ns.els))
set_option maxHeartbeats 2000000 in
theorem PH {ns fs mm cs:AV} (M:TSl eL ns) (h2:iD fs) (h3:dA mm) (h4:sG cs):Abs.Ok Tryz.prog 93 (wR (pg ns fs mm cs) ns):=ok3 fun a x b ⟨ea,hx,m,eb,hm⟩=>by
 subst ea;subst eb;have Q:=(cL _ ⟨_,_,_,_,rfl,M,h2,h3,h4⟩:UnderE 0 (pg ns fs mm cs)/\_).1;have c1:=(bP _ M).2;have c2:=(aT _ h2).2;have c3:=(tu_int _ h3).2;have c4:=(cJ _ h4).2;have R:=(kE (T:=TFn ns) (fun a h=>(tk_fr a h.1).1) x hx).1;obtain ⟨xs,F,S⟩:=hx;obtain ⟨G,l,P⟩:=M;have hl:=F.2;rw [F.els]at hm;refine aF (L:=[ent 131 (vJ eL fun n=>.int .i64 (eX n))]) (elist_cons rAsks_ok.ent aE) (fun r=>(bif Nat.beq r 4 then [15] else [],[])) (by kernel_rfl) Tryz.func93 Tryz.ntmps93 Tryz.results93 rfl rfl (aA Q.und (aA R.und (aA aV aD))) aJ ?_;rw [F.els,l.els,show (AV.int .i64 (m:Nat)).num.toNat=m from Int.toNat_natCast m];refine CT @c1 @c2 @c3 @c4 ?_;refine aL (fun i e=>∃ t n low o,e=⟨30,none,93,t,[],⟨n,low,o⟩,.no⟩/\t.val 1=x/\t.val 2=.int .i64 (m:Nat)/\t.val 3=.ptr 0 0 0/\t.val 7=.int .i64 (i:Nat)/\o.get 0=some (aQ 0 [ns,fs,mm,cs])/\1<=n/\i<=m/\(xs.take m).all (lQ G)=((xs.take m).drop i).all (lQ G)) (fun i=>m-i) 0 ⟨_,_,_,_,rfl,aG,aG,aG,eA,aG,aC,Nat.zero_le _,rfl⟩ ?_;rintro i _ ⟨t,n,low,o,rfl,U,H,V,X,J,hn,hi,v⟩;have Z:=eM (show 0<n by omega)
 rcases Nat.lt_or_ge i m with E | O
 ·obtain ⟨y,w,aa,hg,hd,C,hw,hc⟩:=bB (fun x h=>tk_fr.len h.1) S hl (show i<xs.length by omega)
  rw [aMl E hd,List.all_cons]at v;have c:(((i:Nat):Int)<((m:Nat):Int))=True:=eq_true aC;obtain ⟨w,B⟩:=w;obtain ⟨_,ev,vv,rfl,⟨q,rfl⟩,he,hv⟩:=w;have Y:=(tu_vals _ hv).2;rw [l.els]at B;obtain ⟨z,N,_,hz,D,u,_,_⟩:=nQ tk_node P B;have f:∀ {j:IntKind} {d:Option AV},wY (some 4) G (.int j q) d=some (.pf z):=D;have ha:vJ eL (fun n=>.int .i64 (eX n)) [z]=_:=cR N;obtain ⟨I,k,_⟩:=hv
  have ho:lQ G (.agg [.int .i64 q,ev,vv])=decide (((I.length:Nat):Int)<eX z):=by
   have:dZ G q=z:=hz;simp only [lQ,AV.fld,AV.num,List.getD_cons_zero,List.getD_cons_succ,k.els,this]
  rw [ho]at v;by_cases k1:((I.length:Nat):Int)<eX z
  ·have A:(((I.length:Nat):Int) ≥ eX z)=False:=eq_false aC
   rw [decide_eq_true k1,Bool.true_and]at v;refine UP @U @H @V @X @J @Z @eP @Y F.iX @C @c k.lX k.sX l.iX @f @u @ha @A @hw ?_;exact ⟨i+1,by show _-_<_-_;omega,_,_,_,_,rfl,aM @U,aM @H,aM @V,aG,by simp +decide only [J],aC,E,v⟩
  ·have A:(((I.length:Nat):Int) ≥ eX z)=True:=eq_true aC
   rw [decide_eq_false k1,Bool.false_and]at v;exact aMq @U @H @V @X @J @Z @eP @Y F.iX @C @c k.lX k.sX l.iX @f @u @ha @A @v
 ·obtain rfl:i=m:=Nat.le_antisymm hi O
  rw [List.drop_eq_nil_of_le (by simp;omega),List.all_nil]at v;have c:(((i:Nat):Int)<((i:Nat):Int))=False:=eq_false aC;exact az4 @H @X @c @v
end
end
end Go.Proofs.YtdipddlhenoglaaGreat
