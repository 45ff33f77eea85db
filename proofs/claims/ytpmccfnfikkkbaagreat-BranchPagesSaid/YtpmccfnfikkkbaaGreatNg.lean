/-
  The program of meanings: objects.
-/
import Derived.Test.YtpmccfnfikkkbaaGreatNc
set_option linter.unusedVariables false
set_option linter.unusedSimpArgs false
namespace Go.Proofs.YtpmccfnfikkkbaaGreat
open Go.Abs Go Go.Abs.TryzF
noncomputable section
set_option maxRecDepth 10000
section
variable {ns fs mm cs os ts us is uu:AV}
def aHw (ns fs os r:AV):List AV->Option AV:=wK (fun a b=>a=r/\CO b) fun _ b=>.bool (oE ns.els fs.els.length os.els.length (b.fld 1).num (b.fld 2).els (b.fld 3).els)
theorem aHx (h:RW ns fs mm cs os ts us is uu):Abs.Ok Tryz.prog 296 (aHw ns fs os (rn ns fs mm cs os ts us is uu)):=
 ok2 fun a b ⟨e,c⟩=>by subst e;obtain ⟨_,_,v,g,rfl,⟨k,rfl⟩,⟨n,rfl⟩,f,d⟩:=c;exact aMh h k n v g f d
theorem aHy {ns fs os r v g:AV} {k n:Int} (b:jL v) (a:BR g):aHw ns fs os r [r,.agg [.int .i64 k,.int .i64 n,v,g]]=some (.bool (oE ns.els fs.els.length os.els.length n v.els g.els)):=
 sg2_eq ⟨rfl,_,_,_,_,rfl,⟨_,rfl⟩,⟨_,rfl⟩,b,a⟩
theorem oD {k:Nat} {D:AV->Prop} {xs:List AV} (e:Tk k D) (c:∀ x∈xs,D x) {n:Int} (h:inR n 0 ((xs.length:Int)-1)=true):
 ∃ y,D y/\y∈xs/\xs.getD n.toNat .top=y/\(∀ {q:IntKind} {d:Option AV},dS (some k) xs (.int q n) d=some (.pf y))/\(∀ {d:Option AV},ZH (some (some k)) y d=some y)/\0<=n/\n.toNat<xs.length:=by
 simp only [inR,Bool.and_eq_true,decide_eq_true_eq]at h
 have a:n.toNat<xs.length:=by omega
 have f:=List.getElem?_eq_getElem a;have b:=List.getElem_mem a;exact ⟨_,c _ b,b,by simp [List.getD_eq_getElem?_getD,f],fun {q d}=>ML h.1 f (e.len (c _ b)),fun {d}=>e.pf (c _ b),h.1,a⟩
set_option maxHeartbeats 4000000 in
theorem aCg (h:RW ns fs mm cs os ts us is uu) (k n:Int) (vs R:AV) (P:jL vs) (I:BR R):
 Abs.Returns Tryz.prog 237 [rn ns fs mm cs os ts us is uu,.agg [.int .i64 k,.int .i64 n,vs,R]] (.bool (mH ns.els cs.els fs.els.length os.els.length k n vs.els R.els)):=by
 have aa:UnderE 0 (.agg [.int .i64 k,.int .i64 n,vs,R]):=(tk_ob _ ⟨_,_,_,_,rfl,⟨_,rfl⟩,⟨_,rfl⟩,P,I⟩).1;have u:=(bI _ P).2;have p:=(lE _ I).2;have Z:=aHy (ns:=ns) (fs:=fs) (os:=os) (r:=rn ns fs mm cs os ts us is uu) (k:=k) (n:=n) P I;have a1:vC (rT (rn ns fs mm cs os ts us is uu)) (pP fs.els.length os.els.length) [vs,rT (rn ns fs mm cs os ts us is uu)]=_:=sg2_eq ⟨P,rfl⟩;obtain ⟨xv,f,_⟩:=P;have X:=GH (ns:=ns) (fs:=fs) (os:=os) (r:=rn ns fs mm cs os ts us is uu) (l:=0) I (by omega) (by omega);obtain ⟨B,a,Y⟩:=I;obtain ⟨S,v,N⟩:=h.ns;obtain ⟨xc,D,V⟩:=h.cs;obtain ⟨Q,c2,c3,c4,c5,c6,c7,c8,c9⟩:=h.cells;have w1:=bV v.2;have w2:=bV D.2;have hl:=f.2;rw [f.els]at Z a1 ⊢;rw [a.els]at Z X ⊢
 refine aF (L:=[ent 175 iC,ent 293 (vC (rT (rn ns fs mm cs os ts us is uu)) (pP fs.els.length os.els.length)),ent 295 (CN ns fs os (rn ns fs mm cs os ts us is uu)),ent 296 (aHw ns fs os (rn ns fs mm cs os ts us is uu))])
  (elist_cons within_ok.ent (elist_cons (XW h).ent (elist_cons (GG h).ent (elist_cons (aHx h).ent aE)))) (fun r=>(bif Nat.beq r 6 then [11] else bif Nat.beq r 8 then [11] else bif Nat.beq r 14 then [19] else [],[])) (by kernel_rfl) Tryz.func237 Tryz.ntmps237 Tryz.results237 rfl rfl (aA h.und.und (aA aa.und aD)) aI ?_
 cases c:xv.all (pP fs.els.length os.els.length) with
 | false=>simp +contextual +decide (maxSteps:=1000000) only [↓ wP,wQ,tf,Nat.reduceAdd,wS,u,p,a1,c];simp +decide only [wT,AV.fld,AV.num,mH,c]
 | true=>
 by_cases k1:k=1
 ·subst k1
  by_cases e:((B.length:Nat):Int)=0
  ·cases o:inR n 0 ((xc.length:Int)-1) with
   | false=>simp +contextual +decide (maxSteps:=1000000) only [↓ wP,wQ,tf,Nat.reduceAdd,wS,u,p,a1,c,a.len,e,D.len,D.stab,w2,aH,o,c4];simp +decide only [wT,AV.fld,AV.num,mH,c,D.els,e,o]
   | true=>
     obtain ⟨y,H,_,F,w,O,_,_⟩:=oD tk_con V o;obtain ⟨_,_,rfl,⟨b,rfl,_⟩,⟨m,rfl⟩⟩:=H;simp +contextual +decide (maxSteps:=1000000) only [↓ wP,wQ,tf,Nat.reduceAdd,wS,u,p,a1,c,a.len,e,D.len,D.stab,D.idx,w2,aH,o,w,f.len,f.stab,c4];simp +decide only [wT,AV.fld,AV.num,mH,c,D.els,F,e,o]
  ·simp +contextual +decide (maxSteps:=1000000) only [↓ wP,wQ,tf,Nat.reduceAdd,wS,u,p,a1,c,a.len,e];simp +decide only [wT,AV.fld,AV.num,mH,c,e]
 by_cases k2:k=2
 ·subst k2
  by_cases e:((B.length:Nat):Int)=0
  ·cases o:inR n 0 ((S.length:Int)-1) with
   | false=>simp +contextual +decide (maxSteps:=1000000) only [↓ wP,wQ,tf,Nat.reduceAdd,wS,u,p,a1,c,a.len,e,v.len,v.stab,w1,aH,o,Q];simp +decide only [wT,AV.fld,AV.num,mH,c,v.els,e,o]
   | true=>
     obtain ⟨y,H,_,F,w,O,_,_⟩:=oD tk_node N o;obtain ⟨_,_,_,_,rfl,⟨op,rfl⟩,⟨m,rfl⟩,q1,q2⟩:=H;have e1:=(aV _ q1).2;have e2:=(fY _ q2).2;by_cases A:op=5
     ·simp +contextual +decide (maxSteps:=1000000) only [↓ wP,wQ,tf,Nat.reduceAdd,wS,u,p,a1,c,a.len,e,v.len,v.stab,v.idx,w1,aH,o,w,f.len,f.stab,Q,A]
      simp +decide only [wT,AV.fld,AV.num,mH,c,v.els,eV,F,e,o,A]
     ·simp +contextual +decide (maxSteps:=1000000) only [↓ wP,wQ,tf,Nat.reduceAdd,wS,u,p,a1,c,a.len,e,v.len,v.stab,v.idx,w1,aH,o,w,Q,A]
      simp +decide only [wT,AV.fld,AV.num,mH,c,v.els,eV,F,e,o,A]
  ·simp +contextual +decide (maxSteps:=1000000) only [↓ wP,wQ,tf,Nat.reduceAdd,wS,u,p,a1,c,a.len,e];simp +decide only [wT,AV.fld,AV.num,mH,c,e]
 by_cases k3:k=3
 ·subst k3
  by_cases e:((B.length:Nat):Int)=0
  ·by_cases o:n=0
   ·simp +contextual +decide (maxSteps:=1000000) only [↓ wP,wQ,tf,Nat.reduceAdd,wS,u,p,a1,c,a.len,e,o,f.len];simp +decide only [wT,AV.fld,AV.num,mH,c,e]
   ·simp +contextual +decide (maxSteps:=1000000) only [↓ wP,wQ,tf,Nat.reduceAdd,wS,u,p,a1,c,a.len,e,o];simp +decide only [wT,AV.fld,AV.num,mH,c,o]
  ·simp +contextual +decide (maxSteps:=1000000) only [↓ wP,wQ,tf,Nat.reduceAdd,wS,u,p,a1,c,a.len,e];simp +decide only [wT,AV.fld,AV.num,mH,c,e]
 by_cases k4:k=4
 ·subst k4
  by_cases e:((B.length:Nat):Int)=0
  ·by_cases o:n=0
   ·simp +contextual +decide (maxSteps:=1000000) only [↓ wP,wQ,tf,Nat.reduceAdd,wS,u,p,a1,c,a.len,e,o,f.len];simp +decide only [wT,AV.fld,AV.num,mH,c,e]
   ·simp +contextual +decide (maxSteps:=1000000) only [↓ wP,wQ,tf,Nat.reduceAdd,wS,u,p,a1,c,a.len,e,o];simp +decide only [wT,AV.fld,AV.num,mH,c,o]
  ·simp +contextual +decide (maxSteps:=1000000) only [↓ wP,wQ,tf,Nat.reduceAdd,wS,u,p,a1,c,a.len,e];simp +decide only [wT,AV.fld,AV.num,mH,c,e]
 by_cases k5:k=5
 ·subst k5
  by_cases o:n=0
  ·by_cases A:((xv.length:Nat):Int)=0
   ·by_cases e:((B.length:Nat):Int) > 0
    ·cases G:gV ns.els fs.els.length os.els.length B 0 with
     | false=>simp +contextual +decide (maxSteps:=1000000) only [↓ wP,wQ,tf,Nat.reduceAdd,wS,u,p,a1,c,a.len,a.stab,f.len,f.stab,e,o,A,X,G];simp +decide only [wT,AV.fld,AV.num,mH,G]
     | true=>
       have g0:inR 0 0 ((B.length:Int)-1)=true:=by simp only [inR,Bool.and_eq_true,decide_eq_true_eq];omega
       obtain ⟨y,H,ac,F,w,O,_,_⟩:=oD tk_fr Y g0;have C:=G;simp only [gV,qL,Bool.and_eq_true]at C;have J:=yV (List.all_eq_true.1 C.1.2 y ac);obtain ⟨_,_,_,rfl,⟨m,rfl⟩,q1,q2⟩:=H;have e1:=(bI _ q1).2;have e2:=(bI _ q2).2;rw [v.els]at J;obtain ⟨z,U,_,hz,M,ae,_,_⟩:=oD tk_node N J;obtain ⟨_,_,_,_,rfl,⟨op,rfl⟩,⟨m',rfl⟩,q3,q4⟩:=U;have e3:=(aV _ q3).2;have e4:=(fY _ q4).2;have E:∀ {q:IntKind} {d:Option AV},dS (some 4) S (.int q m) d=some (.pf (.agg [.int .i64 op,.int .i64 m',_,_])):=M;simp +contextual +decide (maxSteps:=1000000) only [↓ wP,wQ,tf,Nat.reduceAdd,wS,u,p,a1,c,a.len,a.stab,a.idx,f.len,f.stab,e,o,A,X,G,w,v.idx,E,Q]
       have T:gV S fs.els.length os.els.length B 0=true:=by rw [<-v.els];exact G
       have ab:B.getD 0 .top=.agg [.int .i64 m,_,_]:=F;have ad:S.getD m.toNat .top=.agg [.int .i64 op,.int .i64 m',_,_]:=hz;simp +decide only [wT,AV.fld,AV.num,mH,c,e,A,T,v.els,eV,ab,ad]
    ·simp +contextual +decide (maxSteps:=1000000) only [↓ wP,wQ,tf,Nat.reduceAdd,wS,u,p,a1,c,a.len,a.stab,f.len,f.stab,e,o,A];simp +decide only [wT,AV.fld,AV.num,mH,e]
   ·simp +contextual +decide (maxSteps:=1000000) only [↓ wP,wQ,tf,Nat.reduceAdd,wS,u,p,a1,c,a.len,f.len,f.stab,o,A];simp +decide only [wT,AV.fld,AV.num,mH,A]
  ·simp +contextual +decide (maxSteps:=1000000) only [↓ wP,wQ,tf,Nat.reduceAdd,wS,u,p,a1,c,a.len,o];simp +decide only [wT,AV.fld,AV.num,mH,o]
 by_cases k6:k=6
 ·subst k6
  simp +contextual +decide (maxSteps:=1000000) only [↓ wP,wQ,tf,Nat.reduceAdd,wS,u,p,a1,c,a.len,Z];simp +decide only [wT,AV.fld,AV.num,mH,c]
 simp +contextual +decide (maxSteps:=1000000) only [↓ wP,wQ,tf,Nat.reduceAdd,wS,u,p,a1,c,a.len,k1,k2,k3,k4,k5,k6];simp +decide only [wT,AV.fld,AV.num,mH,k1,k2,k3,k4,k5,k6]
end
theorem rIn6_ok:Abs.Ok Tryz.prog 137 iC:=by
 intro args v b;unfold iC at b;split at b<;>cases b;rename_i n l h;refine aF (L:=[]) aE aG (by kernel_rfl) Tryz.func137 Tryz.ntmps137 Tryz.results137 rfl rfl (aA aO (aA aO (aA aO aD))) aI ?_;by_cases a:l<=n
 ·simp +contextual +decide (maxSteps:=1000000) only [↓ wP,wQ,wS,a]
  simp [inR,a]
 ·simp +contextual +decide (maxSteps:=1000000) only [↓ wP,wQ,wS,a]
  simp [inR,a]
set_option maxHeartbeats 4000000 in
theorem rAsks_ok:Abs.Ok Tryz.prog 109 (vE eY fun n=>.int .i64 (eZ n)):=AH fun x f=>by
 have d:=(tk_node x f).1;obtain ⟨_,_,ki,pa,rfl,⟨k,rfl⟩,⟨n,rfl⟩,e,l⟩:=f;have b:=(aV _ e).2;have c:=(fY _ l).2;obtain ⟨xs,a,_⟩:=e;refine aF (L:=[]) aE aG (by kernel_rfl) Tryz.func109 Tryz.ntmps109 Tryz.results109 rfl rfl (aA d.und aD) aO ?_
 rcases GF k with rfl | rfl | rfl | rfl | rfl | rfl | rfl | rfl | rfl | rfl | rfl | rfl | rfl | rfl | rfl | rfl | rfl | rfl | rfl | h
 case inr.inr.inr.inr.inr.inr.inr.inr.inl=>simp +contextual +decide (maxSteps:=1000000) only [↓ wP,wQ,tf,Nat.reduceAdd,wS,b,c,a.len];simp [eZ,AV.fld,AV.num,a.els]
 case inr.inr.inr.inr.inr.inr.inr.inr.inr.inr.inr.inr.inr.inr.inr.inr.inr.inr.inr=>simp +contextual +decide (maxSteps:=1000000) only [↓ wP,wQ,tf,Nat.reduceAdd,wS,b,c,h];simp [eZ,AV.fld,AV.num,h]
 all_goals simp +contextual +decide (maxSteps:=1000000) only [↓ wP,wQ,tf,Nat.reduceAdd,wS,b,c];rfl
section
variable {ns fs mm cs os ts us is uu:AV}
abbrev pg (ns fs mm cs:AV):AV:=.agg [ns,fs,mm,cs]
abbrev wd (os ts us is uu:AV):AV:=.agg [os,ts,us,is,uu]
theorem RW.pg (h:RW ns fs mm cs os ts us is uu):gQ (pg ns fs mm cs):=⟨_,_,_,_,rfl,h.ns,h.fs,h.mm,h.cs⟩
theorem RW.wd (h:RW ns fs mm cs os ts us is uu):BS (wd os ts us is uu):=⟨_,_,_,_,_,rfl,h.os,h.ts,h.us,h.is,h.uu⟩
abbrev ME (P W:AV) (d no:Int):List AV->Option AV:=sg3 (fun a b c=>a=P/\b=W/\yW c) fun _ _ c=>.bool (pP d no c)
set_option maxHeartbeats 1000000 in
theorem rvalue_ok (h:RW ns fs mm cs os ts us is uu):Abs.Ok Tryz.prog 271 (ME (pg ns fs mm cs) (wd os ts us is uu) fs.els.length os.els.length):=ok3 fun a b x ⟨E,F,D⟩=>by
 subst E;subst F;have v:=(tk_val x D).1;obtain ⟨_,_,rfl,⟨k,rfl⟩,⟨n,rfl⟩⟩:=D;obtain ⟨I,r,_⟩:=h.fs;obtain ⟨J,u,_⟩:=h.os;obtain ⟨c,d,e,f,l,m,o,p,q⟩:=h.cells;have G:=bV r.2;have H:=bV u.2;refine aF (L:=[ent 137 iC]) (elist_cons rIn6_ok.ent aE) aG (by kernel_rfl) Tryz.func271 Tryz.ntmps271 Tryz.results271 rfl rfl (aA (dX _ h.pg).1.und (aA (tk_wd _ h.wd).1.und (aA v.und aD))) aI ?_;rw [r.els,u.els,QN];by_cases w:k=1
 ·subst w;simp +contextual +decide (maxSteps:=1000000) only [↓ wP,wQ,tf,Nat.reduceAdd,wS,aH,c,d,e,f,l,m,o,p,q];rfl
 by_cases y:k=2
 ·subst y;simp +contextual +decide (maxSteps:=1000000) only [↓ wP,wQ,tf,Nat.reduceAdd,wS,aH,c,d,e,f,l,m,o,p,q]
 by_cases A:k=3
 ·subst A;simp +contextual +decide (maxSteps:=1000000) only [↓ wP,wQ,tf,Nat.reduceAdd,wS,c,d,e,f,l,m,o,p,q]
 by_cases B:k=4
 ·subst B;simp +contextual +decide (maxSteps:=1000000) only [↓ wP,wQ,tf,Nat.reduceAdd,wS,aH,r.len,G,c,d,e,f,l,m,o,p,q]
 by_cases C:k=5
 ·subst C;simp +contextual +decide (maxSteps:=1000000) only [↓ wP,wQ,tf,Nat.reduceAdd,wS,aH,u.len,H,c,d,e,f,l,m,o,p,q]
 simp +contextual +decide (maxSteps:=1000000) only [↓ wP,wQ,tf,Nat.reduceAdd,wS,w,y,A,B,C,c,d,e,f,l,m,o,p,q]
abbrev lV (P W:AV) (e no:Int):List AV->Option AV:=sg4 (fun a b c d=>a=P/\b=W/\jL c/\dO d) fun _ _ c d=>.bool (fL e no d.num c.els)
theorem rvalues_ok (h:RW ns fs mm cs os ts us is uu):Abs.Ok Tryz.prog 219 (lV (pg ns fs mm cs) (wd os ts us is uu) fs.els.length os.els.length):=ok4 fun a b x y ⟨ea,eb,Q,hy⟩=>by
 subst ea;subst eb;obtain ⟨c,rfl⟩:=hy;have G:=(bI x Q).1;obtain ⟨R,S,T,U,V,X,Y,Z,c9⟩:=h.cells;obtain ⟨xs,k,H⟩:=Q;have hl:=k.2;refine aF (L:=[ent 271 (ME (pg ns fs mm cs) (wd os ts us is uu) fs.els.length os.els.length)]) (elist_cons (rvalue_ok h).ent aE) (fun r=>(bif Nat.beq r 4 then [6] else [],[])) (by kernel_rfl) Tryz.func219 Tryz.ntmps219 Tryz.results219 rfl rfl (aA (dX _ h.pg).1.und (aA (tk_wd _ h.wd).1.und (aA G.und (aA aO aD)))) aI ?_;rw [k.els,show (AV.int .i64 c).num=c from rfl];simp +contextual +decide (maxSteps:=1000000) only [↓ wP,wQ,Nat.reduceAdd,wS,R,S,T,U,V,X,Y,Z,c9];refine aN (fun i e=>∃ t n low o,e=⟨33,none,219,t,[],⟨n,low,o⟩,.no⟩/\t.val 2=x/\t.val 3=.int .i64 c/\t.val 4=.ptr 0 0 0/\t.val 5=.ptr 1 0 0/\t.val 9=.int .i64 (i:Nat)/\o.get 0=some (aW 0 [ns,fs,mm,cs])/\o.get 1=some (aW 0 [os,ts,us,is,uu])/\2<=n/\i<=xs.length/\fL fs.els.length os.els.length c xs=(decide ((xs.length:Int)<=c)&&(xs.drop i).all (pP fs.els.length os.els.length))) (fun i=>xs.length-i) 0 ⟨_,_,_,_,rfl,by simp +decide only [↓ aB,bN,aZ],by simp +decide only [↓ aB,bN,aZ],by simp +decide only [↓ aB],by simp +decide only [↓ aB],by simp +decide only [↓ aB];rfl,by simp +decide only [↓ aB,ne_eq],by simp +decide only [↓ aB],by omega,Nat.zero_le _,rfl⟩ ?_;rintro i _ ⟨t,n,low,o,rfl,v,w,J,M,B,C,D,hn,hi,f⟩;have N:=bK (show 0<n by omega);have O:=bK (show 1<n by omega)
 rcases Nat.lt_or_ge i xs.length with q | F
 ·obtain ⟨y,l,hm,hg,hd,p,hw,E⟩:=cO (fun x h=>tk_val.len h) H hl q
  rw [hd,List.all_cons]at f
  have u:=fun {d:Option AV}=>tk_val.pf l (d:=d)
  have P:ME (pg ns fs mm cs) (wd os ts us is uu) fs.els.length os.els.length [pg ns fs mm cs,wd os ts us is uu,y]=_:=rV ⟨rfl,rfl,l⟩;by_cases I:((i:Nat):Int)<=c
  ·cases A:pP fs.els.length os.els.length y with
   | false=>
     rw [A,Bool.false_and,Bool.and_false]at f;simp +contextual +decide (maxSteps:=1000000) only [↓ wP,wQ,tf,Nat.reduceAdd,wS,v,w,J,M,B,C,D,N,O,k.len,k.idx,p,E,u,I,P,A,f]
   | true=>
     rw [A,Bool.true_and]at f;simp +contextual +decide (maxSteps:=1000000) only [↓ wP,wQ,tf,Nat.reduceAdd,wS,v,w,J,M,B,C,D,N,O,k.len,k.idx,p,E,u,I,P,A,hw];exact ⟨i+1,by show _-_<_-_;omega,_,_,_,_,rfl,by simp +decide only [↓ aB,v],by simp +decide only [↓ aB,w],by simp +decide only [↓ aB,J],by simp +decide only [↓ aB,M],by simp +decide only [↓ aB],by simp +decide only [C],by simp +decide only [D],by omega,q,f⟩
  ·have m:(((xs.length:Nat):Int)<=c)=False:=eq_false (by omega)
   rw [decide_eq_false (fun h=>(m ▸ h:False)),Bool.false_and]at f;simp +contextual +decide (maxSteps:=1000000) only [↓ wP,wQ,tf,wS,v,w,B,k.len,E,I,m,f]
 ·obtain rfl:i=xs.length:=Nat.le_antisymm hi F
  rw [List.drop_length,List.all_nil,Bool.and_true]at f;simp +contextual +decide (maxSteps:=1000000) only [↓ wP,wQ,tf,wS,v,w,B,k.len,bP,f]
end
section
variable {ns fs mm cs os ts us is uu:AV}
abbrev tV (P W:AV) (e:List AV) (d no:Int):List AV->Option AV:=sg3 (fun a b c=>a=P/\b=W/\BR c) fun _ _ c=>.bool (qL e d no c.els)
theorem aMe {b:List AV} {a no n:Int} {e v:AV}:frR b a no (.agg [.int .i64 n,e,v])=(inR n 0 ((b.length:Int)-1)&&fL a no 30 e.els&&fL a no (eZ (eV b n)) v.els):=rfl
set_option maxHeartbeats 4000000 in
theorem GE (h:RW ns fs mm cs os ts us is uu):Abs.Ok Tryz.prog 217 (tV (pg ns fs mm cs) (wd os ts us is uu) ns.els fs.els.length os.els.length):=ok3 fun a b x ⟨ea,eb,hx⟩=>by
 subst ea;subst eb;have Y:=(lE x hx).1;obtain ⟨c1,c2,c3,c4,c5,c6,c7,c8,c9⟩:=h.cells;obtain ⟨xs,k,Z⟩:=hx;obtain ⟨S,c,X⟩:=h.ns;have hl:=k.2;have R:=bV c.2;refine aF (L:=[ent 137 iC,ent 109 (vE eY fun n=>.int .i64 (eZ n)),ent 219 (lV (pg ns fs mm cs) (wd os ts us is uu) fs.els.length os.els.length)]) (elist_cons rIn6_ok.ent (elist_cons rAsks_ok.ent (elist_cons (rvalues_ok h).ent aE))) (fun r=>(bif Nat.beq r 5 then [6,13,27,28] else [],[])) (by kernel_rfl) Tryz.func217 Tryz.ntmps217 Tryz.results217 rfl rfl (aA (dX _ h.pg).1.und (aA (tk_wd _ h.wd).1.und (aA Y.und aD))) aI ?_;rw [k.els,c.els];simp +contextual +decide (maxSteps:=1000000) only [↓ wP,wQ,Nat.reduceAdd,wS,c1,c2,c3,c4,c5,c6,c7,c8,c9];refine aN (fun i e=>∃ t n low o,e=⟨57,none,217,t,[],⟨n,low,o⟩,.no⟩/\t.val 2=x/\t.val 3=.ptr 0 0 0/\t.val 4=.ptr 1 0 0/\t.val 7=.int .i64 (i:Nat)/\o.get 0=some (aW 0 [ns,fs,mm,cs])/\o.get 1=some (aW 0 [os,ts,us,is,uu])/\2<=n/\i<=xs.length/\qL S fs.els.length os.els.length xs=(decide (xs.length<=40)&&(xs.drop i).all (frR S fs.els.length os.els.length))) (fun i=>xs.length-i) 0 ⟨_,_,_,_,rfl,by simp +decide only [↓ aB,bN,aZ],by simp +decide only [↓ aB],by simp +decide only [↓ aB],by simp +decide only [↓ aB];rfl,by simp +decide only [↓ aB,ne_eq],by simp +decide only [↓ aB],by omega,Nat.zero_le _,rfl⟩ ?_;rintro i _ ⟨t,n,low,o,rfl,A,J,Q,B,D,P,hn,hi,f⟩;have C:=bK (show 0<n by omega);have O:=bK (show 1<n by omega)
 rcases Nat.lt_or_ge i xs.length with G | V
 ·obtain ⟨y,E,hm,hg,hd,l,hw,F⟩:=cO (fun x h=>tk_fr.len h) Z hl G
  rw [hd,List.all_cons]at f
  have p:=fun {d:Option AV}=>tk_fr.pf E (d:=d)
  obtain ⟨_,T,vv,rfl,⟨m,rfl⟩,he,hv⟩:=E;have M:=(bI _ he).2;have N:=(bI _ hv).2;rw [aMe]at f;by_cases I:((i:Nat):Int)<=40
  ·cases k1:inR m 0 ((S.length:Int)-1) with
   | false=>
     rw [k1,Bool.false_and,Bool.false_and,Bool.false_and,Bool.and_false]at f;simp +contextual +decide (maxSteps:=1000000) only [↓ wP,wQ,tf,Nat.reduceAdd,wS,A,J,B,D,C,dC,M,N,k.len,k.idx,l,F,p,I,c.len,c.stab,R,aH,k1,f]
   | true=>
     obtain ⟨z,U,_,hz,q,u,_,_⟩:=oD tk_node X k1;rw [show eV S m=z from hz]at f;have ha:vE eY (fun n=>.int .i64 (eZ n)) [z]=_:=cY U;have w:lV (pg ns fs mm cs) (wd os ts us is uu) fs.els.length os.els.length [pg ns fs mm cs,wd os ts us is uu,T,.int .i64 30]=some (.bool (fL fs.els.length os.els.length 30 T.els)):=MK ⟨rfl,rfl,he,_,rfl⟩;have H:lV (pg ns fs mm cs) (wd os ts us is uu) fs.els.length os.els.length [pg ns fs mm cs,wd os ts us is uu,vv,.int .i64 (eZ z)]=some (.bool (fL fs.els.length os.els.length (eZ z) vv.els)):=MK ⟨rfl,rfl,hv,_,rfl⟩;rw [k1,Bool.true_and]at f
     cases k2:fL fs.els.length os.els.length 30 T.els with
     | false=>
       rw [k2,Bool.false_and,Bool.false_and,Bool.and_false]at f;simp +contextual +decide (maxSteps:=1000000) only [↓ wP,wQ,tf,Nat.reduceAdd,wS,A,J,Q,B,D,P,C,O,dC,M,N,k.len,k.idx,l,F,p,I,c.len,c.stab,R,aH,k1,w,k2,f]
     | true=>
       rw [k2,Bool.true_and]at f
       cases k3:fL fs.els.length os.els.length (eZ z) vv.els with
       | false=>
         rw [k3,Bool.false_and,Bool.and_false]at f;simp +contextual +decide (maxSteps:=1000000) only [↓ wP,wQ,tf,Nat.reduceAdd,wS,A,J,Q,B,D,P,C,O,dC,M,N,k.len,k.idx,l,F,p,I,c.len,c.idx,c.stab,R,aH,k1,w,k2,q,u,ha,H,k3,f]
       | true=>
         rw [k3,Bool.true_and]at f;simp +contextual +decide (maxSteps:=1000000) only [↓ wP,wQ,tf,Nat.reduceAdd,wS,A,J,Q,B,D,P,C,O,dC,M,N,k.len,k.idx,l,F,p,I,c.len,c.idx,c.stab,R,aH,k1,w,k2,q,u,ha,H,k3,hw];exact ⟨i+1,by show _-_<_-_;omega,_,_,_,_,rfl,by simp +decide only [↓ aB,A],by simp +decide only [↓ aB,J],by simp +decide only [↓ aB,Q],by simp +decide only [↓ aB],by simp +decide only [↓ aB,aZ,ne_eq,D,C],by simp +decide only [↓ aB,aZ,ne_eq,P,O],by omega,G,f⟩
  ·have v:(((xs.length:Nat):Int)<=40)=False:=eq_false (by omega)
   rw [decide_eq_false (show ¬ xs.length<=40 by omega),Bool.false_and]at f;simp +contextual +decide (maxSteps:=1000000) only [↓ wP,wQ,tf,wS,A,B,k.len,F,I,v,f]
 ·obtain rfl:i=xs.length:=Nat.le_antisymm hi V
  rw [List.drop_length,List.all_nil,Bool.and_true]at f;have v:(((xs.length:Nat):Int)<=40)=(xs.length<=40):=propext (by omega);simp +contextual +decide (maxSteps:=1000000) only [↓ wP,wQ,tf,wS,A,B,k.len,bP,f,v]
theorem aMf {xs:List AV} {x:AV} {i M:Nat} (b:i<M) (a:xs.drop i=x::xs.drop (i+1)):(xs.take M).drop i=x::(xs.take M).drop (i+1):=by
 rw [List.drop_take,a,List.drop_take,show M-i=(M-(i+1))+1 by omega,List.take_succ_cons]
abbrev wF (P ns:AV):List AV->Option AV:=sg3 (fun a b c=>a=P/\TSl (TFn ns) b/\∃ m:Nat,c=.int .i64 m/\m<=b.els.length) fun _ b c=>.bool ((b.els.take c.num.toNat).all (lW ns.els))
set_option maxHeartbeats 2000000 in
theorem QM {ns fs mm cs:AV} (J:TSl eY ns) (Z:kP fs) (h3:dO mm) (h4:sA cs):Abs.Ok Tryz.prog 218 (wF (pg ns fs mm cs) ns):=ok3 fun a x b ⟨ea,hx,m,eb,hm⟩=>by
 subst ea;subst eb;have P:=(dX _ ⟨_,_,_,_,rfl,J,Z,h3,h4⟩:UnderE 0 (pg ns fs mm cs)/\_).1;have c1:=(dR _ J).2;have c2:=(aV _ Z).2;have c3:=(tu_int _ h3).2;have c4:=(dW _ h4).2;have Q:=(gW (T:=TFn ns) (fun a h=>(tk_fr a h.1).1) x hx).1;obtain ⟨xs,E,R⟩:=hx;obtain ⟨F,p,O⟩:=J;have hl:=E.2;rw [E.els]at hm;refine aF (L:=[ent 109 (vE eY fun n=>.int .i64 (eZ n))]) (elist_cons rAsks_ok.ent aE) (fun r=>(bif Nat.beq r 4 then [15] else [],[])) (by kernel_rfl) Tryz.func218 Tryz.ntmps218 Tryz.results218 rfl rfl (aA P.und (aA Q.und (aA aO aD))) aI ?_;rw [E.els,p.els,show (AV.int .i64 (m:Nat)).num.toNat=m from Int.toNat_natCast m];simp +contextual +decide (maxSteps:=1000000) only [↓ wP,wQ,Nat.reduceAdd,wS,c1,c2,c3,c4];refine aN (fun i e=>∃ t n low o,e=⟨30,none,218,t,[],⟨n,low,o⟩,.no⟩/\t.val 1=x/\t.val 2=.int .i64 (m:Nat)/\t.val 3=.ptr 0 0 0/\t.val 7=.int .i64 (i:Nat)/\o.get 0=some (aW 0 [ns,fs,mm,cs])/\1<=n/\i<=m/\(xs.take m).all (lW F)=((xs.take m).drop i).all (lW F)) (fun i=>m-i) 0 ⟨_,_,_,_,rfl,by simp +decide only [↓ aB,bN,aZ],by simp +decide only [↓ aB,bN,aZ],by simp +decide only [↓ aB],by simp +decide only [↓ aB];rfl,by simp +decide only [↓ aB],by omega,Nat.zero_le _,rfl⟩ ?_;rintro i _ ⟨t,n,low,o,rfl,S,H,U,V,I,hn,hi,v⟩;have Y:=bK (show 0<n by omega)
 rcases Nat.lt_or_ge i m with D | N
 ·obtain ⟨y,l,aa,hg,hd,B,hw,hc⟩:=cO (fun x h=>tk_fr.len h.1) R hl (show i<xs.length by omega)
  rw [aMf D hd,List.all_cons]at v
  have ab:=fun {d:Option AV}=>tk_fr.pf l.1 (d:=d)
  have c:(((i:Nat):Int)<((m:Nat):Int))=True:=eq_true (by omega);obtain ⟨l,A⟩:=l;obtain ⟨_,ev,vv,rfl,⟨q,rfl⟩,he,hv⟩:=l;have ce:=(bI _ he).2;have X:=(bI _ hv).2;rw [p.els]at A;obtain ⟨z,M,_,hz,C,u,_,_⟩:=oD tk_node O A;have f:∀ {j:IntKind} {d:Option AV},dS (some 4) F (.int j q) d=some (.pf z):=C;have ha:vE eY (fun n=>.int .i64 (eZ n)) [z]=_:=cY M;obtain ⟨G,k,_⟩:=hv
  have ho:lW F (.agg [.int .i64 q,ev,vv])=decide (((G.length:Nat):Int)<eZ z):=by
   have:eV F q=z:=hz;simp only [lW,AV.fld,AV.num,List.getD_cons_zero,List.getD_cons_succ,k.els,this]
  rw [ho]at v;by_cases k1:((G.length:Nat):Int)<eZ z
  ·have w:(((G.length:Nat):Int) ≥ eZ z)=False:=eq_false (by omega)
   rw [decide_eq_true k1,Bool.true_and]at v;simp +contextual +decide (maxSteps:=1000000) only [↓ wP,wQ,tf,Nat.reduceAdd,wS,S,H,U,V,I,Y,dC,X,E.idx,B,c,k.len,k.stab,p.idx,f,u,ha,w,hw];exact ⟨i+1,by show _-_<_-_;omega,_,_,_,_,rfl,by simp +decide only [↓ aB,S],by simp +decide only [↓ aB,H],by simp +decide only [↓ aB,U],by simp +decide only [↓ aB],by simp +decide only [I],by omega,D,v⟩
  ·have w:(((G.length:Nat):Int) ≥ eZ z)=True:=eq_true (by omega)
   have k2:(eZ z<=((G.length:Nat):Int))=True:=eq_true (by omega);rw [decide_eq_false k1,Bool.false_and]at v;simp +contextual +decide (maxSteps:=1000000) only [↓ wP,wQ,tf,Nat.reduceAdd,wS,S,H,U,V,I,Y,dC,X,E.idx,B,c,k.len,k.stab,p.idx,f,u,ha,w,v]
 ·obtain rfl:i=m:=Nat.le_antisymm hi N
  rw [List.drop_eq_nil_of_le (by simp;omega),List.all_nil]at v;have c:(((i:Nat):Int)<((i:Nat):Int))=False:=eq_false (by omega);simp +contextual +decide (maxSteps:=1000000) only [↓ wP,wQ,wS,H,V,c,v]
end
end
end Go.Proofs.YtpmccfnfikkkbaaGreat
