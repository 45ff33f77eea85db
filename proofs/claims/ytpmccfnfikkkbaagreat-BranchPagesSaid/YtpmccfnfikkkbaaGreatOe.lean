/-
  The reference of programs: how many Kids, and nodes.
-/
import Derived.Test.YtpmccfnfikkkbaaGreatOc
set_option linter.unusedVariables false
set_option linter.unusedSimpArgs false
namespace Go.Proofs.YtpmccfnfikkkbaaGreat
open Go.Abs Go Go.Abs.TryzF
noncomputable section
set_option maxRecDepth 10000
def iR (m k:Int):KidsK->Int
 | .fixed j=>j
 | .con=>k
 | .mat=>IntKind.i64.wrap (1+m)
 | .none=>-1
abbrev UU:List AV->Option AV:=sg3 (fun a b c=>dO a/\dO b/\dO c) fun a b c=>.int .i64 (iR b.num c.num (bO a.num))
set_option maxHeartbeats 8000000 in
theorem rkids_ok:Abs.Ok Tryz.prog 214 UU:=ok3 fun a b c ⟨d,⟨m,e⟩,f⟩=>by
 obtain ⟨op,rfl⟩:=d;obtain ⟨k,rfl⟩:=f;subst e;refine aF (L:=[]) aE aG (by kernel_rfl) Tryz.func214 Tryz.ntmps214 Tryz.results214 rfl rfl (aA aO (aA aO (aA aO aD))) aO ?_;show Wk _ _ _ _ _ (jM _ _ (fun _ r=>r=.int .i64 (iR m k (bO op))) _)
 rcases FX op with rfl | rfl | rfl | rfl | rfl | rfl | rfl | rfl | rfl | rfl | rfl | rfl | rfl | rfl | rfl | rfl | rfl | rfl | rfl | rfl | rfl | rfl | rfl | rfl | rfl | rfl | rfl | rfl | h
 case inr.inr.inr.inr.inr.inr.inr.inr.inr.inr.inr.inr.inr.inr.inr.inr.inr.inr.inr.inr.inr.inr.inr.inr.inr.inr.inr.inr=>
  simp +contextual +decide (maxSteps:=1000000) only [↓ wP,wQ,wS,h];simp [bO,h,iR]
 all_goals simp +contextual +decide (maxSteps:=1000000) only [↓ wP,wQ,wS];rfl
def BA (nf:Int) (cs:List AV) (op n:Int):Bool:=
 if op=1 then qK n else if op=2 then inR n 0 1 else if op=4 then inR n (-nf) 29 else if op=24 then inR n 0 3 else if op=14 then inR n 0 ((cs.length:Int)-1) else decide (n=0)
def tN (c:Int) (cs:List AV) (x:AV):Bool:=
 let op:=(x.fld 0).num;let n:=(x.fld 1).num;let b:Int:=(x.fld 2).els.length;let a:Int:=(x.fld 3).els.length
 (BA c cs op n&&if op=15 then inR a 1 5 else decide (a=0))&&((x.fld 3).els.all (mW cs)&&decide (b=iR a (if op=14 then ((cs.getD n.toNat .top).fld 1).num else 0) (bO op)))
theorem aVl {c:List AV} (h:∀ x∈c,wH x):∃ d,∀ x∈c,TPatN d x:=by
 induction c with
 | nil=>exact ⟨0,fun x a=>nomatch a⟩
 | cons y l k=>
   obtain ⟨d,f⟩:=k fun x a=>h x (List.mem_cons_of_mem _ a)
   obtain ⟨e,b⟩:=h y (List.mem_cons_self ..);refine ⟨d+e,fun x a=>?_⟩
   rcases List.mem_cons.1 a with rfl | a
   ·exact b.le (by omega)
   ·exact (f x a).le (by omega)
abbrev aNz (d:Nat):List lX:=[ent 133 iC,ent 213 (FQ d),ent 71 (wC d),ent 214 UU]
set_option maxHeartbeats 2000000 in
theorem UV {d:Nat} {ns fs mm cs ki pa:AV} {p C:List AV} {op n:Int} {kk:AV} (R:cs.els=C) (M:sA cs) (a:Sl pa p) (P:∀ x∈p,TPatN d x) (V:Code) (O:BB ((Tryz.f135).body.getD .skip)=some V) {Q:Ex->Env->Prop}
 (c:Bool) (t:Tr AV) (k low:Nat) (o:Tr AObj) (u:t.val 2=.ptr 0 0 0) (l:t.val 3=.ptr 1 0 0) (A:t.val 5=kk) (v:t.val 6=.bool c) (B:t.val 7=.int .i64 0) (D:o.get 0=some (aW 0 [ns,fs,mm,cs])) (b:o.get 1=some (aW 0 [.int .i64 op,.int .i64 n,ki,pa])) (w:2<=k)
 (T:∀ t k low o,t.val 2=.ptr 0 0 0->t.val 3=.ptr 1 0 0->t.val 5=kk->t.val 6=.bool (c&&p.all (mW C))->o.get 1=some (aW 0 [.int .i64 op,.int .i64 n,ki,pa])->2<=k->Q (.exit 1) ⟨112,none,135,t,[],⟨k,low,o⟩,.no⟩):Wk Tryz.prog (bJ (aNz d)) (fun r=>(bif Nat.beq r 22 then [5,15] else bif Nat.beq r 23 then [11] else [],[])) V ⟨112,none,135,t,[],⟨k,low,o⟩,.no⟩ Q:=by
 cases O;have hl:=a.2;have H:(c&&p.all (mW C))=(c&&(p.drop 0).all (mW C)):=rfl;generalize (c&&p.all (mW C))=W at *
 refine aN (fun i e=>∃ t k low o m,e=⟨112,none,135,t,[],⟨k,low,o⟩,.no⟩/\t.val 2=.ptr 0 0 0/\t.val 3=.ptr 1 0 0/\t.val 5=kk/\t.val 6=.bool m/\t.val 7=.int .i64 (i:Nat)/\o.get 0=some (aW 0 [ns,fs,mm,cs])/\o.get 1=some (aW 0 [.int .i64 op,.int .i64 n,ki,pa])/\2<=k/\i<=p.length/\W=(m&&(p.drop i).all (mW C))) (fun i=>p.length-i) 0
  ⟨t,k,low,o,c,rfl,u,l,A,v,B,D,b,w,Nat.zero_le _,H⟩ ?_
 clear u l A v B D b w H;rintro i _ ⟨t,k,low,o,m,rfl,u,l,A,v,B,D,b,w,hi,q⟩;have Y:=bK (show 0<k by omega);have J:=bK (show 1<k by omega)
 rcases Nat.lt_or_ge i p.length with y | N
 ·obtain ⟨x,f,hm,hg,Z,F,U,L⟩:=cO (fun x h=>(cJ d).len h) P a.2 y
  have G:=fun {X:Option AV}=>(cJ d).pf f (d:=X)
  rw [Z,List.all_cons,XR f]at q
  cases m with
  | false=>
    rw [Bool.false_and]at q;simp +contextual +decide (maxSteps:=1000000) only [↓ wP,wQ,tf,Nat.reduceAdd,wS,l,v,B,b,J,a.len,L];exact T _ _ _ _ (by simp +decide only [↓ aB,u]) (by simp +decide only [↓ aB,l]) (by simp +decide only [↓ aB,A]) (by rw [q];exact by simp +decide only [↓ aB,v]) b w
  | true=>
    have he:FQ d [x,cs]=some (.bool (kH C d x)):=by rw [FQ,sg2_eq ⟨f,M⟩,R]
    have E:wC d [x,.int .i64 12]=some (.int .i64 (wN d x 12)):=sg2_eq ⟨f,_,rfl,by omega,by omega⟩;have I:=XN d x 12 f (by omega);rw [Bool.true_and]at q;by_cases k1:qF d x<=12
    ·have k2:(wN d x 12 ≥ 0)=True:=eq_true (by rw [I];split<;>omega)
     have S:((0:Int)<=wN d x 12)=True:=k2;rw [decide_eq_true k1,Bool.true_and]at q;simp +contextual +decide (maxSteps:=1000000) only [↓ wP,wQ,tf,Nat.reduceAdd,wS,u,l,v,B,D,b,Y,J,a.len,a.idx,F,L,G,he,E,k2,U];exact ⟨i+1,by show _-_<_-_;omega,_,_,_,_,_,rfl,by simp +decide only [↓ aB,u],by simp +decide only [↓ aB,l],by simp +decide only [↓ aB,A],by simp +decide only [↓ aB],by simp +decide only [↓ aB],by simp +decide only [D],by simp +decide only [b],w,y,q⟩
    ·have k2:(wN d x 12 ≥ 0)=False:=eq_false (by rw [I];split<;>omega)
     have S:((0:Int)<=wN d x 12)=False:=k2;rw [decide_eq_false k1,Bool.false_and]at q;simp +contextual +decide (maxSteps:=1000000) only [↓ wP,wQ,tf,Nat.reduceAdd,wS,l,v,B,b,J,a.len,a.idx,F,L,G,E,k2,U];exact ⟨i+1,by show _-_<_-_;omega,_,_,_,_,_,rfl,by simp +decide only [↓ aB,u],by simp +decide only [↓ aB,l],by simp +decide only [↓ aB,A],by simp +decide only [↓ aB],by simp +decide only [↓ aB],by simp +decide only [D],by simp +decide only [b],w,y,q⟩
 ·obtain rfl:i=p.length:=Nat.le_antisymm hi N
  rw [List.drop_length,List.all_nil,Bool.and_true]at q;simp +contextual +decide (maxSteps:=1000000) only [↓ wP,wQ,tf,Nat.reduceAdd,wS,l,B,b,J,a.len,bP];exact T _ _ _ _ (by simp +decide only [↓ aB,u]) (by simp +decide only [↓ aB,l]) (by simp +decide only [↓ aB,A]) (by rw [q];exact by simp +decide only [↓ aB,v]) b w
set_option maxHeartbeats 16000000 in
theorem aHb {ns fs mm cs:AV} (h:PG ns fs mm cs) (x:AV) (hx:eY x):Abs.Returns Tryz.prog 135 [pg ns fs mm cs,x] (.bool (tN fs.els.length cs.els x)):=by
 have ag:=(tk_node x hx).1;obtain ⟨_,_,ki,pa,rfl,⟨op,rfl⟩,⟨n,rfl⟩,y,hp⟩:=hx;have H:=(aV _ y).2;have I:=(fY _ hp).2;obtain ⟨C,D,E,G⟩:=h.cells;obtain ⟨B,a,ab⟩:=hp;obtain ⟨xf,U,aj⟩:=h.fs;obtain ⟨xk,l,ak⟩:=y;obtain ⟨d,af⟩:=aVl ab;have Y:=h.cs;obtain ⟨A,O,ad⟩:=h.cs;have w1:=bV O.2;have hl:=a.2;have ai:=U.2
 have wn:IntKind.i64.wrap (0-((xf.length:Nat):Int))=-((xf.length:Nat):Int):=by rw [IntWalk.i64_in _ (by omega)];omega
 refine aF (L:=aNz d) (elist_cons rIn5_ok.ent (elist_cons (XO d).ent (elist_cons (FP d).ent (elist_cons rkids_ok.ent aE)))) (fun r=>(bif Nat.beq r 22 then [5,15] else bif Nat.beq r 23 then [11] else [],[])) (by kernel_rfl) Tryz.func135 Tryz.ntmps135 Tryz.results135 rfl rfl (aA h.und.und (aA ag.und aD)) aI ?_
 have X:tN fs.els.length cs.els (.agg [.int .i64 op,.int .i64 n,ki,pa])=((BA xf.length A op n&&if op=15 then inR (B.length:Nat) 1 5 else decide (((B.length:Nat):Int)=0))&&(B.all (mW A)&&decide (((xk.length:Nat):Int)=iR (B.length:Nat) (if op=14 then ((A.getD n.toNat .top).fld 1).num else 0) (bO op)))):=by
  rw [<-a.els,<-O.els,<-U.els,<-l.els];rfl
 rw [X];clear X
 have f:∀ k:Int,UU [.int .i64 op,.int .i64 (B.length:Nat),.int .i64 k]=some (.int .i64 (iR (B.length:Nat) k (bO op))):=fun k=>rV ⟨⟨_,rfl⟩,⟨_,rfl⟩,⟨_,rfl⟩⟩
 have J:=fun {kk:AV} {Q:Ex->Env->Prop}=>UV (ns:=ns) (fs:=fs) (mm:=mm) (ki:=ki) (op:=op) (n:=n) (kk:=kk) O.els Y a af _ rfl (Q:=Q)
 have P:∃ K,K=iR (B.length:Nat) (if op=14 then ((A.getD n.toNat .top).fld 1).num else 0) (bO op):=⟨_,rfl⟩
 obtain ⟨K,P⟩:=P;rw [<-P]
 have w:∃ F,F=(BA xf.length A op n&&if op=15 then inR (B.length:Nat) 1 5 else decide (((B.length:Nat):Int)=0)):=⟨_,rfl⟩
 obtain ⟨F,w⟩:=w;rw [<-w];unfold BA qK at w
 rcases (by omega:op=1∨op=2∨op=4∨op=24∨op=14∨op=15∨(op≠1/\op≠2/\op≠4/\op≠24/\op≠14/\op≠15)) with rfl | rfl | rfl | rfl | rfl | rfl | ⟨p1,p2,p4,V,S,T⟩
 ·have p:(if (1:Int)=14 then ((A.getD n.toNat .top).fld 1).num else 0)=0:=by simp
  cases g:inR n (-1000000000) 1000000000 with
  | false=>
    rw [show F=false by rw [w];simp [g]];simp +contextual +decide (maxSteps:=1000000) only [↓ wP,wQ,tf,Nat.reduceAdd,wS,C,D,E,G,H,I,aH,g]
    refine J (kk:=.int .i64 0) false _ _ _ _ (by simp +decide only [↓ aB]) (by simp +decide only [↓ aB]) (by simp +decide only [↓ aB]) (by simp +decide only [↓ aB]) (by simp +decide only [↓ aB]) (by simp +decide only [↓ aB,ne_eq]) (by simp +decide only [↓ aB]) (by omega) fun t k low o N u v e b y=>?_
    have q:=bK (show 1<k by omega);simp +contextual +decide (maxSteps:=1000000) only [↓ wP,wQ,Nat.reduceAdd,wS,e]
  | true=>
    by_cases b:((B.length:Nat):Int)=0
    ·rw [show F=true by rw [w];rw [decide_eq_true b];simp [g]]
     simp +contextual +decide (maxSteps:=1000000) only [↓ wP,wQ,tf,Nat.reduceAdd,wS,C,D,E,G,H,I,a.len,aH,g,b]
     refine J (kk:=.int .i64 0) true _ _ _ _ (by simp +decide only [↓ aB]) (by simp +decide only [↓ aB]) (by simp +decide only [↓ aB]) (by simp +decide only [↓ aB]) (by simp +decide only [↓ aB]) (by simp +decide only [↓ aB,ne_eq]) (by simp +decide only [↓ aB]) (by omega) fun t k low o N u v e b y=>?_
     have q:=bK (show 1<k by omega);rw [Bool.true_and]at e
     cases M:B.all (mW A) with
     | false=>simp +contextual +decide (maxSteps:=1000000) only [↓ wP,wQ,Nat.reduceAdd,wS,e,M]
     | true=>
       have R:=f 0;rw [p]at P;simp +contextual +decide (maxSteps:=1000000) only [↓ wP,wQ,tf,Nat.reduceAdd,wS,u,v,e,b,q,M,a.len,l.len,a.stab,l.stab,R,<-P]
    ·rw [show F=false by rw [w];rw [decide_eq_false b];simp]
     simp +contextual +decide (maxSteps:=1000000) only [↓ wP,wQ,tf,Nat.reduceAdd,wS,C,D,E,G,H,I,a.len,aH,g,b]
     refine J (kk:=.int .i64 0) false _ _ _ _ (by simp +decide only [↓ aB]) (by simp +decide only [↓ aB]) (by simp +decide only [↓ aB]) (by simp +decide only [↓ aB]) (by simp +decide only [↓ aB]) (by simp +decide only [↓ aB,ne_eq]) (by simp +decide only [↓ aB]) (by omega) fun t k low o N u v e b y=>?_
     have q:=bK (show 1<k by omega);simp +contextual +decide (maxSteps:=1000000) only [↓ wP,wQ,Nat.reduceAdd,wS,e]
 ·have p:(if (2:Int)=14 then ((A.getD n.toNat .top).fld 1).num else 0)=0:=by simp
  cases g:inR n 0 1 with
  | false=>
    rw [show F=false by rw [w];simp [g]];simp +contextual +decide (maxSteps:=1000000) only [↓ wP,wQ,tf,Nat.reduceAdd,wS,C,D,E,G,H,I,aH,g]
    refine J (kk:=.int .i64 0) false _ _ _ _ (by simp +decide only [↓ aB]) (by simp +decide only [↓ aB]) (by simp +decide only [↓ aB]) (by simp +decide only [↓ aB]) (by simp +decide only [↓ aB]) (by simp +decide only [↓ aB,ne_eq]) (by simp +decide only [↓ aB]) (by omega) fun t k low o N u v e b y=>?_
    have q:=bK (show 1<k by omega);simp +contextual +decide (maxSteps:=1000000) only [↓ wP,wQ,Nat.reduceAdd,wS,e]
  | true=>
    by_cases b:((B.length:Nat):Int)=0
    ·rw [show F=true by rw [w];rw [decide_eq_true b];simp [g]]
     simp +contextual +decide (maxSteps:=1000000) only [↓ wP,wQ,tf,Nat.reduceAdd,wS,C,D,E,G,H,I,a.len,aH,g,b]
     refine J (kk:=.int .i64 0) true _ _ _ _ (by simp +decide only [↓ aB]) (by simp +decide only [↓ aB]) (by simp +decide only [↓ aB]) (by simp +decide only [↓ aB]) (by simp +decide only [↓ aB]) (by simp +decide only [↓ aB,ne_eq]) (by simp +decide only [↓ aB]) (by omega) fun t k low o N u v e b y=>?_
     have q:=bK (show 1<k by omega);rw [Bool.true_and]at e
     cases M:B.all (mW A) with
     | false=>simp +contextual +decide (maxSteps:=1000000) only [↓ wP,wQ,Nat.reduceAdd,wS,e,M]
     | true=>
       have R:=f 0;rw [p]at P;simp +contextual +decide (maxSteps:=1000000) only [↓ wP,wQ,tf,Nat.reduceAdd,wS,u,v,e,b,q,M,a.len,l.len,a.stab,l.stab,R,<-P]
    ·rw [show F=false by rw [w];rw [decide_eq_false b];simp]
     simp +contextual +decide (maxSteps:=1000000) only [↓ wP,wQ,tf,Nat.reduceAdd,wS,C,D,E,G,H,I,a.len,aH,g,b]
     refine J (kk:=.int .i64 0) false _ _ _ _ (by simp +decide only [↓ aB]) (by simp +decide only [↓ aB]) (by simp +decide only [↓ aB]) (by simp +decide only [↓ aB]) (by simp +decide only [↓ aB]) (by simp +decide only [↓ aB,ne_eq]) (by simp +decide only [↓ aB]) (by omega) fun t k low o N u v e b y=>?_
     have q:=bK (show 1<k by omega);simp +contextual +decide (maxSteps:=1000000) only [↓ wP,wQ,Nat.reduceAdd,wS,e]
 ·have p:(if (4:Int)=14 then ((A.getD n.toNat .top).fld 1).num else 0)=0:=by simp
  cases g:inR n (-((xf.length:Nat):Int)) 29 with
  | false=>
    rw [show F=false by rw [w];simp [g]];simp +contextual +decide (maxSteps:=1000000) only [↓ wP,wQ,tf,Nat.reduceAdd,wS,C,D,E,G,H,I,U.len,wn,aH,g]
    refine J (kk:=.int .i64 0) false _ _ _ _ (by simp +decide only [↓ aB]) (by simp +decide only [↓ aB]) (by simp +decide only [↓ aB]) (by simp +decide only [↓ aB]) (by simp +decide only [↓ aB]) (by simp +decide only [↓ aB,ne_eq]) (by simp +decide only [↓ aB]) (by omega) fun t k low o N u v e b y=>?_
    have q:=bK (show 1<k by omega);simp +contextual +decide (maxSteps:=1000000) only [↓ wP,wQ,Nat.reduceAdd,wS,e]
  | true=>
    by_cases b:((B.length:Nat):Int)=0
    ·rw [show F=true by rw [w];rw [decide_eq_true b];simp [g]]
     simp +contextual +decide (maxSteps:=1000000) only [↓ wP,wQ,tf,Nat.reduceAdd,wS,C,D,E,G,H,I,U.len,a.len,wn,aH,g,b]
     refine J (kk:=.int .i64 0) true _ _ _ _ (by simp +decide only [↓ aB]) (by simp +decide only [↓ aB]) (by simp +decide only [↓ aB]) (by simp +decide only [↓ aB]) (by simp +decide only [↓ aB]) (by simp +decide only [↓ aB,ne_eq]) (by simp +decide only [↓ aB]) (by omega) fun t k low o N u v e b y=>?_
     have q:=bK (show 1<k by omega);rw [Bool.true_and]at e
     cases M:B.all (mW A) with
     | false=>simp +contextual +decide (maxSteps:=1000000) only [↓ wP,wQ,Nat.reduceAdd,wS,e,M]
     | true=>
       have R:=f 0;rw [p]at P;simp +contextual +decide (maxSteps:=1000000) only [↓ wP,wQ,tf,Nat.reduceAdd,wS,u,v,e,b,q,M,a.len,l.len,a.stab,l.stab,R,<-P]
    ·rw [show F=false by rw [w];rw [decide_eq_false b];simp]
     simp +contextual +decide (maxSteps:=1000000) only [↓ wP,wQ,tf,Nat.reduceAdd,wS,C,D,E,G,H,I,U.len,a.len,wn,aH,g,b]
     refine J (kk:=.int .i64 0) false _ _ _ _ (by simp +decide only [↓ aB]) (by simp +decide only [↓ aB]) (by simp +decide only [↓ aB]) (by simp +decide only [↓ aB]) (by simp +decide only [↓ aB]) (by simp +decide only [↓ aB,ne_eq]) (by simp +decide only [↓ aB]) (by omega) fun t k low o N u v e b y=>?_
     have q:=bK (show 1<k by omega);simp +contextual +decide (maxSteps:=1000000) only [↓ wP,wQ,Nat.reduceAdd,wS,e]
 ·have p:(if (24:Int)=14 then ((A.getD n.toNat .top).fld 1).num else 0)=0:=by simp
  cases g:inR n 0 3 with
  | false=>
    rw [show F=false by rw [w];simp [g]];simp +contextual +decide (maxSteps:=1000000) only [↓ wP,wQ,tf,Nat.reduceAdd,wS,C,D,E,G,H,I,aH,g]
    refine J (kk:=.int .i64 0) false _ _ _ _ (by simp +decide only [↓ aB]) (by simp +decide only [↓ aB]) (by simp +decide only [↓ aB]) (by simp +decide only [↓ aB]) (by simp +decide only [↓ aB]) (by simp +decide only [↓ aB,ne_eq]) (by simp +decide only [↓ aB]) (by omega) fun t k low o N u v e b y=>?_
    have q:=bK (show 1<k by omega);simp +contextual +decide (maxSteps:=1000000) only [↓ wP,wQ,Nat.reduceAdd,wS,e]
  | true=>
    by_cases b:((B.length:Nat):Int)=0
    ·rw [show F=true by rw [w];rw [decide_eq_true b];simp [g]]
     simp +contextual +decide (maxSteps:=1000000) only [↓ wP,wQ,tf,Nat.reduceAdd,wS,C,D,E,G,H,I,a.len,aH,g,b]
     refine J (kk:=.int .i64 0) true _ _ _ _ (by simp +decide only [↓ aB]) (by simp +decide only [↓ aB]) (by simp +decide only [↓ aB]) (by simp +decide only [↓ aB]) (by simp +decide only [↓ aB]) (by simp +decide only [↓ aB,ne_eq]) (by simp +decide only [↓ aB]) (by omega) fun t k low o N u v e b y=>?_
     have q:=bK (show 1<k by omega);rw [Bool.true_and]at e
     cases M:B.all (mW A) with
     | false=>simp +contextual +decide (maxSteps:=1000000) only [↓ wP,wQ,Nat.reduceAdd,wS,e,M]
     | true=>
       have R:=f 0;rw [p]at P;simp +contextual +decide (maxSteps:=1000000) only [↓ wP,wQ,tf,Nat.reduceAdd,wS,u,v,e,b,q,M,a.len,l.len,a.stab,l.stab,R,<-P]
    ·rw [show F=false by rw [w];rw [decide_eq_false b];simp]
     simp +contextual +decide (maxSteps:=1000000) only [↓ wP,wQ,tf,Nat.reduceAdd,wS,C,D,E,G,H,I,a.len,aH,g,b]
     refine J (kk:=.int .i64 0) false _ _ _ _ (by simp +decide only [↓ aB]) (by simp +decide only [↓ aB]) (by simp +decide only [↓ aB]) (by simp +decide only [↓ aB]) (by simp +decide only [↓ aB]) (by simp +decide only [↓ aB,ne_eq]) (by simp +decide only [↓ aB]) (by omega) fun t k low o N u v e b y=>?_
     have q:=bK (show 1<k by omega);simp +contextual +decide (maxSteps:=1000000) only [↓ wP,wQ,Nat.reduceAdd,wS,e]
 ·have p:(if (14:Int)=14 then ((A.getD n.toNat .top).fld 1).num else 0)=((A.getD n.toNat .top).fld 1).num:=by simp
  cases g:inR n 0 ((A.length:Nat)-1) with
  | false=>
    rw [show F=false by rw [w];simp [g]];simp +contextual +decide (maxSteps:=1000000) only [↓ wP,wQ,tf,Nat.reduceAdd,wS,C,D,E,G,H,I,O.len,w1,aH,g]
    refine J (kk:=.int .i64 0) false _ _ _ _ (by simp +decide only [↓ aB]) (by simp +decide only [↓ aB]) (by simp +decide only [↓ aB]) (by simp +decide only [↓ aB]) (by simp +decide only [↓ aB]) (by simp +decide only [↓ aB,ne_eq]) (by simp +decide only [↓ aB]) (by omega) fun t k low o N u v e b y=>?_
    have q:=bK (show 1<k by omega);simp +contextual +decide (maxSteps:=1000000) only [↓ wP,wQ,Nat.reduceAdd,wS,e]
  | true=>
    obtain ⟨i,rfl,ae⟩:∃ i:Nat,n=i/\i<A.length:=by
     simp [inR]at g;exact ⟨n.toNat,by omega,by omega⟩
    obtain ⟨x,ac,hm,hg,hd,aa,hw,hc⟩:=cO (fun x h=>tk_con.len h) ad O.2 ae;obtain ⟨_,_,rfl,⟨c,rfl,ah⟩,⟨m,rfl⟩⟩:=ac
    have Z:A.getD (i:Int).toNat .top=.agg [.str c,.int .i64 m]:=by simp [hg]
    rw [Z,show ((AV.agg [.str c,.int .i64 m]).fld 1).num=m from rfl]at p P;by_cases b:((B.length:Nat):Int)=0
    ·rw [show F=true by rw [w];rw [decide_eq_true b];simp [g]]
     simp +contextual +decide (maxSteps:=1000000) only [↓ wP,wQ,tf,Nat.reduceAdd,wS,C,D,E,G,H,I,O.len,a.len,w1,aH,g,b,O.idx,aa]
     refine J (kk:=.int .i64 m) true _ _ _ _ (by simp +decide only [↓ aB]) (by simp +decide only [↓ aB]) (by simp +decide only [↓ aB]) (by simp +decide only [↓ aB]) (by simp +decide only [↓ aB]) (by simp +decide only [↓ aB,ne_eq]) (by simp +decide only [↓ aB]) (by omega) fun t k low o N u v e b y=>?_
     have q:=bK (show 1<k by omega);rw [Bool.true_and]at e
     cases M:B.all (mW A) with
     | false=>simp +contextual +decide (maxSteps:=1000000) only [↓ wP,wQ,Nat.reduceAdd,wS,e,M]
     | true=>
       have R:=f m;rw [p]at P;simp +contextual +decide (maxSteps:=1000000) only [↓ wP,wQ,tf,Nat.reduceAdd,wS,u,v,e,b,q,M,a.len,l.len,a.stab,l.stab,R,<-P]
    ·rw [show F=false by rw [w];rw [decide_eq_false b];simp]
     simp +contextual +decide (maxSteps:=1000000) only [↓ wP,wQ,tf,Nat.reduceAdd,wS,C,D,E,G,H,I,O.len,a.len,w1,aH,g,b,O.idx,aa]
     refine J (kk:=.int .i64 m) false _ _ _ _ (by simp +decide only [↓ aB]) (by simp +decide only [↓ aB]) (by simp +decide only [↓ aB]) (by simp +decide only [↓ aB]) (by simp +decide only [↓ aB]) (by simp +decide only [↓ aB,ne_eq]) (by simp +decide only [↓ aB]) (by omega) fun t k low o N u v e b y=>?_
     have q:=bK (show 1<k by omega);simp +contextual +decide (maxSteps:=1000000) only [↓ wP,wQ,Nat.reduceAdd,wS,e]
 ·have p:(if (15:Int)=14 then ((A.getD n.toNat .top).fld 1).num else 0)=0:=by simp
  by_cases g:n=0
  ·subst g
   have g:(0:Int)=0:=rfl
   cases b:inR (B.length:Nat) 1 5 with
   | false=>
     rw [show F=false by rw [w];simp [b]];simp +contextual +decide (maxSteps:=1000000) only [↓ wP,wQ,tf,Nat.reduceAdd,wS,C,D,E,G,H,I,a.len,aH,b]
     refine J (kk:=.int .i64 0) false _ _ _ _ (by simp +decide only [↓ aB]) (by simp +decide only [↓ aB]) (by simp +decide only [↓ aB]) (by simp +decide only [↓ aB]) (by simp +decide only [↓ aB]) (by simp +decide only [↓ aB,ne_eq]) (by simp +decide only [↓ aB]) (by omega) fun t k low o N u v e b y=>?_
     have q:=bK (show 1<k by omega);simp +contextual +decide (maxSteps:=1000000) only [↓ wP,wQ,Nat.reduceAdd,wS,e]
   | true=>
     rw [show F=true by rw [w];simp [b]];simp +contextual +decide (maxSteps:=1000000) only [↓ wP,wQ,tf,Nat.reduceAdd,wS,C,D,E,G,H,I,a.len,aH,b]
     refine J (kk:=.int .i64 0) true _ _ _ _ (by simp +decide only [↓ aB]) (by simp +decide only [↓ aB]) (by simp +decide only [↓ aB]) (by simp +decide only [↓ aB]) (by simp +decide only [↓ aB]) (by simp +decide only [↓ aB,ne_eq]) (by simp +decide only [↓ aB]) (by omega) fun t k low o N u v e b y=>?_
     have q:=bK (show 1<k by omega);rw [Bool.true_and]at e
     cases M:B.all (mW A) with
     | false=>simp +contextual +decide (maxSteps:=1000000) only [↓ wP,wQ,Nat.reduceAdd,wS,e,M]
     | true=>
       have R:=f 0;rw [p]at P;simp +contextual +decide (maxSteps:=1000000) only [↓ wP,wQ,tf,Nat.reduceAdd,wS,u,v,e,b,q,M,a.len,l.len,a.stab,l.stab,R,<-P]
  ·rw [show F=false by rw [w];simp [g]]
   simp +contextual +decide (maxSteps:=1000000) only [↓ wP,wQ,tf,Nat.reduceAdd,wS,C,D,E,G,H,I,g]
   refine J (kk:=.int .i64 0) false _ _ _ _ (by simp +decide only [↓ aB]) (by simp +decide only [↓ aB]) (by simp +decide only [↓ aB]) (by simp +decide only [↓ aB]) (by simp +decide only [↓ aB]) (by simp +decide only [↓ aB,ne_eq]) (by simp +decide only [↓ aB]) (by omega) fun t k low o N u v e b y=>?_
   have q:=bK (show 1<k by omega);simp +contextual +decide (maxSteps:=1000000) only [↓ wP,wQ,Nat.reduceAdd,wS,e]
 ·have p:(if op=14 then ((A.getD n.toNat .top).fld 1).num else 0)=0:=by simp [S]
  by_cases g:n=0
  ·subst g
   have g:(0:Int)=0:=rfl;by_cases b:((B.length:Nat):Int)=0
   ·rw [show F=true by rw [w];rw [decide_eq_true b];simp [p1,p2,p4,V,S,T]]
    simp +contextual +decide (maxSteps:=1000000) only [↓ wP,wQ,tf,Nat.reduceAdd,wS,C,D,E,G,H,I,a.len,b,p1,p2,p4,V,S,T]
    refine J (kk:=.int .i64 0) true _ _ _ _ (by simp +decide only [↓ aB]) (by simp +decide only [↓ aB]) (by simp +decide only [↓ aB]) (by simp +decide only [↓ aB]) (by simp +decide only [↓ aB]) (by simp +decide only [↓ aB,ne_eq]) (by simp +decide only [↓ aB]) (by omega) fun t k low o N u v e b y=>?_
    have q:=bK (show 1<k by omega);rw [Bool.true_and]at e
    cases M:B.all (mW A) with
    | false=>simp +contextual +decide (maxSteps:=1000000) only [↓ wP,wQ,Nat.reduceAdd,wS,e,M]
    | true=>
      have R:=f 0;rw [p]at P;simp +contextual +decide (maxSteps:=1000000) only [↓ wP,wQ,tf,Nat.reduceAdd,wS,u,v,e,b,q,M,a.len,l.len,a.stab,l.stab,R,<-P]
   ·rw [show F=false by rw [w];rw [decide_eq_false b];simp [T]]
    simp +contextual +decide (maxSteps:=1000000) only [↓ wP,wQ,tf,Nat.reduceAdd,wS,C,D,E,G,H,I,a.len,b,p1,p2,p4,V,S,T]
    refine J (kk:=.int .i64 0) false _ _ _ _ (by simp +decide only [↓ aB]) (by simp +decide only [↓ aB]) (by simp +decide only [↓ aB]) (by simp +decide only [↓ aB]) (by simp +decide only [↓ aB]) (by simp +decide only [↓ aB,ne_eq]) (by simp +decide only [↓ aB]) (by omega) fun t k low o N u v e b y=>?_
    have q:=bK (show 1<k by omega);simp +contextual +decide (maxSteps:=1000000) only [↓ wP,wQ,Nat.reduceAdd,wS,e]
  ·rw [show F=false by rw [w];simp [g,p1,p2,p4,V,S,T]]
   simp +contextual +decide (maxSteps:=1000000) only [↓ wP,wQ,tf,Nat.reduceAdd,wS,C,D,E,G,H,I,g,p1,p2,p4,V,S,T]
   refine J (kk:=.int .i64 0) false _ _ _ _ (by simp +decide only [↓ aB]) (by simp +decide only [↓ aB]) (by simp +decide only [↓ aB]) (by simp +decide only [↓ aB]) (by simp +decide only [↓ aB]) (by simp +decide only [↓ aB,ne_eq]) (by simp +decide only [↓ aB]) (by omega) fun t k low o N u v e b y=>?_
   have q:=bK (show 1<k by omega);simp +contextual +decide (maxSteps:=1000000) only [↓ wP,wQ,Nat.reduceAdd,wS,e]
end
end Go.Proofs.YtpmccfnfikkkbaaGreat
