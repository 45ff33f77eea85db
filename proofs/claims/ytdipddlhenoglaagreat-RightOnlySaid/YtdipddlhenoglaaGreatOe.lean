/-
  The reference of programs: how many Kids, and nodes.
-/
import Derived.Test.YtdipddlhenoglaaGreatOa
set_option linter.unusedVariables false
set_option linter.unusedSimpArgs false
namespace Go.Proofs.YtdipddlhenoglaaGreat
open Go.Abs Go Go.Abs.TryzF
noncomputable section
set_option maxRecDepth 10000
def iH (m k:Int):KidsK->Int
 | .fixed j=>j
 | .con=>k
 | .mat=>IntKind.i64.wrap (1+m)
 | .none=>-1
abbrev SV:List AV->Option AV:=sg3 (fun a b c=>cS a/\cS b/\cS c) fun a b c=>.int .i64 (iH b.num c.num (bL a.num))
set_option maxHeartbeats 8000000 in
theorem rkids_ok:Abs.Ok Tryz.prog 192 SV:=ok3 fun a b c ⟨ha,⟨m,hb⟩,hc⟩=>by
 obtain ⟨op,rfl⟩:=ha;obtain ⟨k,rfl⟩:=hc;subst hb;refine aF (L:=[]) aE aL (by kernel_rfl) Tryz.func192 Tryz.ntmps192 Tryz.results192 rfl rfl (aA aS (aA aS (aA aS aC))) aS ?_;show Wk _ _ _ _ _ (iR _ _ (fun _ r=>r=.int .i64 (iH m k (bL op))) _)
 rcases EC op with rfl | rfl | rfl | rfl | rfl | rfl | rfl | rfl | rfl | rfl | rfl | rfl | rfl | rfl | rfl | rfl | rfl | rfl | rfl | rfl | rfl | rfl | rfl | rfl | rfl | rfl | rfl | rfl | h
 case inr.inr.inr.inr.inr.inr.inr.inr.inr.inr.inr.inr.inr.inr.inr.inr.inr.inr.inr.inr.inr.inr.inr.inr.inr.inr.inr.inr=>
  refine AE @h ?_;simp [bL,h,iH]
 all_goals refine AC ?_;rfl
def BC (nf:Int) (cs:List AV) (op n:Int):Bool:=
 if op=1 then pO n else if op=2 then inR n 0 1 else if op=4 then inR n (-nf) 29 else if op=24 then inR n 0 3 else if op=14 then inR n 0 ((cs.length:Int)-1) else decide (n=0)
def sV (c:Int) (cs:List AV) (x:AV):Bool:=
 let op:=(x.fld 0).num;let n:=(x.fld 1).num;let b:Int:=(x.fld 2).els.length;let a:Int:=(x.fld 3).els.length
 (BC c cs op n&&if op=15 then inR a 1 5 else decide (a=0))&&((x.fld 3).els.all (lZ cs)&&decide (b=iH a (if op=14 then ((cs.getD n.toNat .top).fld 1).num else 0) (bL op)))
theorem aWg {c:List AV} (h:∀ x∈c,wX x):∃ d,∀ x∈c,TPatN d x:=by
 induction c with
 | nil=>exact ⟨0,fun x a=>nomatch a⟩
 | cons y l k=>
   obtain ⟨d,f⟩:=k fun x a=>h x (List.mem_cons_of_mem _ a)
   obtain ⟨e,b⟩:=h y (List.mem_cons_self ..);refine ⟨d+e,fun x a=>?_⟩
   rcases List.mem_cons.1 a with rfl | a
   ·exact b.le aD
   ·exact (f x a).le aD
abbrev aOi (d:Nat):List mE:=[ent 128 gB,ent 191 (EA d),ent 102 (wO d),ent 192 SV]
set_option maxHeartbeats 2000000 in
theorem SW {d:Nat} {ns fs mm cs ki pa:AV} {p C:List AV} {op n:Int} {kk:AV} (R:cs.els=C) (M:rT cs) (a:Sl pa p) (P:∀ x∈p,TPatN d x) (V:Code) (O:BD ((Tryz.f130).body.getD .skip)=some V) {Q:Ex->Env->Prop}
 (c:Bool) (t:Tr AV) (k low:Nat) (o:Tr AObj) (u:t.val 2=.ptr 0 0 0) (l:t.val 3=.ptr 1 0 0) (A:t.val 5=kk) (v:t.val 6=.bool c) (B:t.val 7=.int .i64 0) (D:o.get 0=some (aR 0 [ns,fs,mm,cs])) (b:o.get 1=some (aR 0 [.int .i64 op,.int .i64 n,ki,pa])) (w:2<=k)
 (T:∀ t k low o,t.val 2=.ptr 0 0 0->t.val 3=.ptr 1 0 0->t.val 5=kk->t.val 6=.bool (c&&p.all (lZ C))->o.get 1=some (aR 0 [.int .i64 op,.int .i64 n,ki,pa])->2<=k->Q (.exit 1) ⟨112,none,130,t,[],⟨k,low,o⟩,.no⟩):Wk Tryz.prog (orcL (aOi d)) (fun r=>(bif Nat.beq r 22 then [5,15] else bif Nat.beq r 23 then [11] else [],[])) V ⟨112,none,130,t,[],⟨k,low,o⟩,.no⟩ Q:=by
 cases O;have hl:=a.2;have H:(c&&p.all (lZ C))=(c&&(p.drop 0).all (lZ C)):=rfl;generalize (c&&p.all (lZ C))=W at *
 refine aM (fun i e=>∃ t k low o m,e=⟨112,none,130,t,[],⟨k,low,o⟩,.no⟩/\t.val 2=.ptr 0 0 0/\t.val 3=.ptr 1 0 0/\t.val 5=kk/\t.val 6=.bool m/\t.val 7=.int .i64 (i:Nat)/\o.get 0=some (aR 0 [ns,fs,mm,cs])/\o.get 1=some (aR 0 [.int .i64 op,.int .i64 n,ki,pa])/\2<=k/\i<=p.length/\W=(m&&(p.drop i).all (lZ C))) (fun i=>p.length-i) 0
  ⟨t,k,low,o,c,rfl,u,l,A,v,B,D,b,w,Nat.zero_le _,H⟩ ?_
 clear u l A v B D b w H;rintro i _ ⟨t,k,low,o,m,rfl,u,l,A,v,B,D,b,w,hi,q⟩;have Y:=dQ (show 0<k by omega);have J:=dQ (show 1<k by omega)
 rcases Nat.lt_or_ge i p.length with y | N
 ·obtain ⟨x,f,hm,hg,Z,F,U,L⟩:=bI (fun x h=>(cA d).len h) P a.2 y
  have G:=fun {X:Option AV}=>(cA d).pf f (d:=X)
  rw [Z,List.all_cons,XD f]at q
  cases m with
  | false=>
    rw [Bool.false_and]at q;refine ap7 @l @v @B @b @J a.lX @L ?_;exact T _ _ _ _ (aN @u) (aN @l) (aN @A) (by rw [q];exact aN @v) b w
  | true=>
    have he:EA d [x,cs]=some (.bool (jI C d x)):=by rw [EA,sg2_eq ⟨f,M⟩,R]
    have E:wO d [x,.int .i64 12]=some (.int .i64 (wN d x 12)):=sg2_eq ⟨f,_,rfl,aD,aD⟩;have I:=WZ d x 12 f aD;rw [Bool.true_and]at q;by_cases k1:pK d x<=12
    ·have k2:(wN d x 12 ≥ 0)=True:=eq_true (by rw [I];split<;>omega)
     have S:((0:Int)<=wN d x 12)=True:=k2;rw [decide_eq_true k1,Bool.true_and]at q;refine aLx @u @l @v @B @D @b @Y @J a.lX a.iX @F @L @G @he @E @k2 @U ?_;exact ⟨i+1,by show _-_<_-_;omega,_,_,_,_,_,rfl,aN @u,aN @l,aN @A,aG,aG,by simp +decide only [D],by simp +decide only [b],w,y,q⟩
    ·have k2:(wN d x 12 ≥ 0)=False:=eq_false (by rw [I];split<;>omega)
     have S:((0:Int)<=wN d x 12)=False:=k2;rw [decide_eq_false k1,Bool.false_and]at q;refine yA @l @v @B @b @J a.lX a.iX @F @L @G @E @k2 @U ?_;exact ⟨i+1,by show _-_<_-_;omega,_,_,_,_,_,rfl,aN @u,aN @l,aN @A,aG,aG,by simp +decide only [D],by simp +decide only [b],w,y,q⟩
 ·obtain rfl:i=p.length:=Nat.le_antisymm hi N
  rw [List.drop_length,List.all_nil,Bool.and_true]at q;refine XK @l @B @b @J a.lX @bG ?_;exact T _ _ _ _ (aN @u) (aN @l) (aN @A) (by rw [q];exact aN @v) b w
set_option maxHeartbeats 16000000 in
theorem aFh {ns fs mm cs:AV} (h:PG ns fs mm cs) (x:AV) (hx:eH x):Abs.Returns Tryz.prog 130 [pg ns fs mm cs,x] (.bool (sV fs.els.length cs.els x)):=by
 have ag:=(tk_node x hx).1;obtain ⟨_,_,ki,pa,rfl,⟨op,rfl⟩,⟨n,rfl⟩,y,hp⟩:=hx;have H:=(aT _ y).2;have I:=(fG _ hp).2;obtain ⟨C,D,E,G⟩:=h.cells;obtain ⟨B,a,ab⟩:=hp;obtain ⟨xf,U,aj⟩:=h.fs;obtain ⟨xk,l,ak⟩:=y;obtain ⟨d,af⟩:=aWg ab;have Y:=h.cs;obtain ⟨A,O,ad⟩:=h.cs;have w1:=bU O.2;have hl:=a.2;have ai:=U.2
 have wn:IntKind.i64.wrap (0-((xf.length:Nat):Int))=-((xf.length:Nat):Int):=by rw [IntWalk.i64_in _ aD];omega
 refine aF (L:=aOi d) (elist_cons rIn5_ok.ent (elist_cons (XA d).ent (elist_cons (DZ d).ent (elist_cons rkids_ok.ent aE)))) (fun r=>(bif Nat.beq r 22 then [5,15] else bif Nat.beq r 23 then [11] else [],[])) (by kernel_rfl) Tryz.func130 Tryz.ntmps130 Tryz.results130 rfl rfl (aA h.und.und (aA ag.und aC)) aI ?_
 have X:sV fs.els.length cs.els (.agg [.int .i64 op,.int .i64 n,ki,pa])=((BC xf.length A op n&&if op=15 then inR (B.length:Nat) 1 5 else decide (((B.length:Nat):Int)=0))&&(B.all (lZ A)&&decide (((xk.length:Nat):Int)=iH (B.length:Nat) (if op=14 then ((A.getD n.toNat .top).fld 1).num else 0) (bL op)))):=by
  rw [<-a.els,<-O.els,<-U.els,<-l.els];rfl
 rw [X];clear X
 have f:∀ k:Int,SV [.int .i64 op,.int .i64 (B.length:Nat),.int .i64 k]=some (.int .i64 (iH (B.length:Nat) k (bL op))):=fun k=>kI ⟨⟨_,rfl⟩,⟨_,rfl⟩,⟨_,rfl⟩⟩
 have J:=fun {kk:AV} {Q:Ex->Env->Prop}=>SW (ns:=ns) (fs:=fs) (mm:=mm) (ki:=ki) (op:=op) (n:=n) (kk:=kk) O.els Y a af _ rfl (Q:=Q)
 have P:∃ K,K=iH (B.length:Nat) (if op=14 then ((A.getD n.toNat .top).fld 1).num else 0) (bL op):=⟨_,rfl⟩
 obtain ⟨K,P⟩:=P;rw [<-P]
 have w:∃ F,F=(BC xf.length A op n&&if op=15 then inR (B.length:Nat) 1 5 else decide (((B.length:Nat):Int)=0)):=⟨_,rfl⟩
 obtain ⟨F,w⟩:=w;rw [<-w];unfold BC pO at w
 rcases (by omega:op=1∨op=2∨op=4∨op=24∨op=14∨op=15∨(op≠1/\op≠2/\op≠4/\op≠24/\op≠14/\op≠15)) with rfl | rfl | rfl | rfl | rfl | rfl | ⟨p1,p2,p4,V,S,T⟩
 ·have p:(if (1:Int)=14 then ((A.getD n.toNat .top).fld 1).num else 0)=0:=by simp
  cases g:inR n (-1000000000) 1000000000 with
  | false=>
    rw [show F=false by rw [w];simp [g]];simp +contextual +decide (maxSteps:=1000000) only [↓ wP,wQ,tf,Nat.reduceAdd,wS,C,D,E,G,H,I,aH,g]
    refine J (kk:=.int .i64 0) false _ _ _ _ (aG) (aG) (aG) (aG) (aG) (qC) (aG) aD fun t k low o N u v e b y=>?_
    have q:=dQ (show 1<k by omega);exact uQ @e
  | true=>
    by_cases b:((B.length:Nat):Int)=0
    ·rw [show F=true by rw [w];rw [decide_eq_true b];simp [g]]
     simp +contextual +decide (maxSteps:=1000000) only [↓ wP,wQ,tf,Nat.reduceAdd,wS,C,D,E,G,H,I,a.len,aH,g,b]
     refine J (kk:=.int .i64 0) true _ _ _ _ (aG) (aG) (aG) (aG) (aG) (qC) (aG) aD fun t k low o N u v e b y=>?_
     have q:=dQ (show 1<k by omega);rw [Bool.true_and]at e
     cases M:B.all (lZ A) with
     | false=>exact TS @e @M
     | true=>
       have R:=f 0;rw [p]at P;simp +contextual +decide (maxSteps:=1000000) only [↓ wP,wQ,tf,Nat.reduceAdd,wS,u,v,e,b,q,M,a.len,l.len,a.stab,l.stab,R,<-P]
    ·rw [show F=false by rw [w];rw [decide_eq_false b];simp]
     simp +contextual +decide (maxSteps:=1000000) only [↓ wP,wQ,tf,Nat.reduceAdd,wS,C,D,E,G,H,I,a.len,aH,g,b]
     refine J (kk:=.int .i64 0) false _ _ _ _ (aG) (aG) (aG) (aG) (aG) (qC) (aG) aD fun t k low o N u v e b y=>?_
     have q:=dQ (show 1<k by omega);exact uQ @e
 ·have p:(if (2:Int)=14 then ((A.getD n.toNat .top).fld 1).num else 0)=0:=by simp
  cases g:inR n 0 1 with
  | false=>
    rw [show F=false by rw [w];simp [g]];simp +contextual +decide (maxSteps:=1000000) only [↓ wP,wQ,tf,Nat.reduceAdd,wS,C,D,E,G,H,I,aH,g]
    refine J (kk:=.int .i64 0) false _ _ _ _ (aG) (aG) (aG) (aG) (aG) (qC) (aG) aD fun t k low o N u v e b y=>?_
    have q:=dQ (show 1<k by omega);exact uQ @e
  | true=>
    by_cases b:((B.length:Nat):Int)=0
    ·rw [show F=true by rw [w];rw [decide_eq_true b];simp [g]]
     simp +contextual +decide (maxSteps:=1000000) only [↓ wP,wQ,tf,Nat.reduceAdd,wS,C,D,E,G,H,I,a.len,aH,g,b]
     refine J (kk:=.int .i64 0) true _ _ _ _ (aG) (aG) (aG) (aG) (aG) (qC) (aG) aD fun t k low o N u v e b y=>?_
     have q:=dQ (show 1<k by omega);rw [Bool.true_and]at e
     cases M:B.all (lZ A) with
     | false=>exact TS @e @M
     | true=>
       have R:=f 0;rw [p]at P;simp +contextual +decide (maxSteps:=1000000) only [↓ wP,wQ,tf,Nat.reduceAdd,wS,u,v,e,b,q,M,a.len,l.len,a.stab,l.stab,R,<-P]
    ·rw [show F=false by rw [w];rw [decide_eq_false b];simp]
     simp +contextual +decide (maxSteps:=1000000) only [↓ wP,wQ,tf,Nat.reduceAdd,wS,C,D,E,G,H,I,a.len,aH,g,b]
     refine J (kk:=.int .i64 0) false _ _ _ _ (aG) (aG) (aG) (aG) (aG) (qC) (aG) aD fun t k low o N u v e b y=>?_
     have q:=dQ (show 1<k by omega);exact uQ @e
 ·have p:(if (4:Int)=14 then ((A.getD n.toNat .top).fld 1).num else 0)=0:=by simp
  cases g:inR n (-((xf.length:Nat):Int)) 29 with
  | false=>
    rw [show F=false by rw [w];simp [g]];simp +contextual +decide (maxSteps:=1000000) only [↓ wP,wQ,tf,Nat.reduceAdd,wS,C,D,E,G,H,I,U.len,wn,aH,g]
    refine J (kk:=.int .i64 0) false _ _ _ _ (aG) (aG) (aG) (aG) (aG) (qC) (aG) aD fun t k low o N u v e b y=>?_
    have q:=dQ (show 1<k by omega);exact uQ @e
  | true=>
    by_cases b:((B.length:Nat):Int)=0
    ·rw [show F=true by rw [w];rw [decide_eq_true b];simp [g]]
     simp +contextual +decide (maxSteps:=1000000) only [↓ wP,wQ,tf,Nat.reduceAdd,wS,C,D,E,G,H,I,U.len,a.len,wn,aH,g,b]
     refine J (kk:=.int .i64 0) true _ _ _ _ (aG) (aG) (aG) (aG) (aG) (qC) (aG) aD fun t k low o N u v e b y=>?_
     have q:=dQ (show 1<k by omega);rw [Bool.true_and]at e
     cases M:B.all (lZ A) with
     | false=>exact TS @e @M
     | true=>
       have R:=f 0;rw [p]at P;simp +contextual +decide (maxSteps:=1000000) only [↓ wP,wQ,tf,Nat.reduceAdd,wS,u,v,e,b,q,M,a.len,l.len,a.stab,l.stab,R,<-P]
    ·rw [show F=false by rw [w];rw [decide_eq_false b];simp]
     simp +contextual +decide (maxSteps:=1000000) only [↓ wP,wQ,tf,Nat.reduceAdd,wS,C,D,E,G,H,I,U.len,a.len,wn,aH,g,b]
     refine J (kk:=.int .i64 0) false _ _ _ _ (aG) (aG) (aG) (aG) (aG) (qC) (aG) aD fun t k low o N u v e b y=>?_
     have q:=dQ (show 1<k by omega);exact uQ @e
 ·have p:(if (24:Int)=14 then ((A.getD n.toNat .top).fld 1).num else 0)=0:=by simp
  cases g:inR n 0 3 with
  | false=>
    rw [show F=false by rw [w];simp [g]];simp +contextual +decide (maxSteps:=1000000) only [↓ wP,wQ,tf,Nat.reduceAdd,wS,C,D,E,G,H,I,aH,g]
    refine J (kk:=.int .i64 0) false _ _ _ _ (aG) (aG) (aG) (aG) (aG) (qC) (aG) aD fun t k low o N u v e b y=>?_
    have q:=dQ (show 1<k by omega);exact uQ @e
  | true=>
    by_cases b:((B.length:Nat):Int)=0
    ·rw [show F=true by rw [w];rw [decide_eq_true b];simp [g]]
     simp +contextual +decide (maxSteps:=1000000) only [↓ wP,wQ,tf,Nat.reduceAdd,wS,C,D,E,G,H,I,a.len,aH,g,b]
     refine J (kk:=.int .i64 0) true _ _ _ _ (aG) (aG) (aG) (aG) (aG) (qC) (aG) aD fun t k low o N u v e b y=>?_
     have q:=dQ (show 1<k by omega);rw [Bool.true_and]at e
     cases M:B.all (lZ A) with
     | false=>exact TS @e @M
     | true=>
       have R:=f 0;rw [p]at P;simp +contextual +decide (maxSteps:=1000000) only [↓ wP,wQ,tf,Nat.reduceAdd,wS,u,v,e,b,q,M,a.len,l.len,a.stab,l.stab,R,<-P]
    ·rw [show F=false by rw [w];rw [decide_eq_false b];simp]
     simp +contextual +decide (maxSteps:=1000000) only [↓ wP,wQ,tf,Nat.reduceAdd,wS,C,D,E,G,H,I,a.len,aH,g,b]
     refine J (kk:=.int .i64 0) false _ _ _ _ (aG) (aG) (aG) (aG) (aG) (qC) (aG) aD fun t k low o N u v e b y=>?_
     have q:=dQ (show 1<k by omega);exact uQ @e
 ·have p:(if (14:Int)=14 then ((A.getD n.toNat .top).fld 1).num else 0)=((A.getD n.toNat .top).fld 1).num:=by simp
  cases g:inR n 0 ((A.length:Nat)-1) with
  | false=>
    rw [show F=false by rw [w];simp [g]];simp +contextual +decide (maxSteps:=1000000) only [↓ wP,wQ,tf,Nat.reduceAdd,wS,C,D,E,G,H,I,O.len,w1,aH,g]
    refine J (kk:=.int .i64 0) false _ _ _ _ (aG) (aG) (aG) (aG) (aG) (qC) (aG) aD fun t k low o N u v e b y=>?_
    have q:=dQ (show 1<k by omega);exact uQ @e
  | true=>
    obtain ⟨i,rfl,ae⟩:∃ i:Nat,n=i/\i<A.length:=by
     simp [inR]at g;exact ⟨n.toNat,aD,aD⟩
    obtain ⟨x,ac,hm,hg,hd,aa,hw,hc⟩:=bI (fun x h=>tk_con.len h) ad O.2 ae;obtain ⟨_,_,rfl,⟨c,rfl,ah⟩,⟨m,rfl⟩⟩:=ac
    have Z:A.getD (i:Int).toNat .top=.agg [.str c,.int .i64 m]:=by simp [hg]
    rw [Z,show ((AV.agg [.str c,.int .i64 m]).fld 1).num=m from rfl]at p P;by_cases b:((B.length:Nat):Int)=0
    ·rw [show F=true by rw [w];rw [decide_eq_true b];simp [g]]
     simp +contextual +decide (maxSteps:=1000000) only [↓ wP,wQ,tf,Nat.reduceAdd,wS,C,D,E,G,H,I,O.len,a.len,w1,aH,g,b,O.idx,aa]
     refine J (kk:=.int .i64 m) true _ _ _ _ (aG) (aG) (aG) (aG) (aG) (qC) (aG) aD fun t k low o N u v e b y=>?_
     have q:=dQ (show 1<k by omega);rw [Bool.true_and]at e
     cases M:B.all (lZ A) with
     | false=>exact TS @e @M
     | true=>
       have R:=f m;rw [p]at P;simp +contextual +decide (maxSteps:=1000000) only [↓ wP,wQ,tf,Nat.reduceAdd,wS,u,v,e,b,q,M,a.len,l.len,a.stab,l.stab,R,<-P]
    ·rw [show F=false by rw [w];rw [decide_eq_false b];simp]
     simp +contextual +decide (maxSteps:=1000000) only [↓ wP,wQ,tf,Nat.reduceAdd,wS,C,D,E,G,H,I,O.len,a.len,w1,aH,g,b,O.idx,aa]
     refine J (kk:=.int .i64 m) false _ _ _ _ (aG) (aG) (aG) (aG) (aG) (qC) (aG) aD fun t k low o N u v e b y=>?_
     have q:=dQ (show 1<k by omega);exact uQ @e
 ·have p:(if (15:Int)=14 then ((A.getD n.toNat .top).fld 1).num else 0)=0:=by simp
  by_cases g:n=0
  ·subst g
   have g:(0:Int)=0:=rfl
   cases b:inR (B.length:Nat) 1 5 with
   | false=>
     rw [show F=false by rw [w];simp [b]];refine ap9 @C @D @E @G @H @I a.lX @aH @b ?_
     refine J (kk:=.int .i64 0) false _ _ _ _ (aG) (aG) (aG) (aG) (aG) (qC) (aG) aD fun t k low o N u v e b y=>?_
     have q:=dQ (show 1<k by omega);exact uQ @e
   | true=>
     rw [show F=true by rw [w];simp [b]];refine ap9 @C @D @E @G @H @I a.lX @aH @b ?_
     refine J (kk:=.int .i64 0) true _ _ _ _ (aG) (aG) (aG) (aG) (aG) (qC) (aG) aD fun t k low o N u v e b y=>?_
     have q:=dQ (show 1<k by omega);rw [Bool.true_and]at e
     cases M:B.all (lZ A) with
     | false=>exact TS @e @M
     | true=>
       have R:=f 0;rw [p]at P;simp +contextual +decide (maxSteps:=1000000) only [↓ wP,wQ,tf,Nat.reduceAdd,wS,u,v,e,b,q,M,a.len,l.len,a.stab,l.stab,R,<-P]
  ·rw [show F=false by rw [w];simp [g]]
   simp +contextual +decide (maxSteps:=1000000) only [↓ wP,wQ,tf,Nat.reduceAdd,wS,C,D,E,G,H,I,g]
   refine J (kk:=.int .i64 0) false _ _ _ _ (aG) (aG) (aG) (aG) (aG) (qC) (aG) aD fun t k low o N u v e b y=>?_
   have q:=dQ (show 1<k by omega);exact uQ @e
 ·have p:(if op=14 then ((A.getD n.toNat .top).fld 1).num else 0)=0:=by simp [S]
  by_cases g:n=0
  ·subst g
   have g:(0:Int)=0:=rfl;by_cases b:((B.length:Nat):Int)=0
   ·rw [show F=true by rw [w];rw [decide_eq_true b];simp [p1,p2,p4,V,S,T]]
    refine LC @C @D @E @G @H @I a.lX @b @p1 @p2 @p4 @V @S @T ?_
    refine J (kk:=.int .i64 0) true _ _ _ _ (aG) (aG) (aG) (aG) (aG) (qC) (aG) aD fun t k low o N u v e b y=>?_
    have q:=dQ (show 1<k by omega);rw [Bool.true_and]at e
    cases M:B.all (lZ A) with
    | false=>exact TS @e @M
    | true=>
      have R:=f 0;rw [p]at P;simp +contextual +decide (maxSteps:=1000000) only [↓ wP,wQ,tf,Nat.reduceAdd,wS,u,v,e,b,q,M,a.len,l.len,a.stab,l.stab,R,<-P]
   ·rw [show F=false by rw [w];rw [decide_eq_false b];simp [T]]
    refine LC @C @D @E @G @H @I a.lX @b @p1 @p2 @p4 @V @S @T ?_
    refine J (kk:=.int .i64 0) false _ _ _ _ (aG) (aG) (aG) (aG) (aG) (qC) (aG) aD fun t k low o N u v e b y=>?_
    have q:=dQ (show 1<k by omega);exact uQ @e
  ·rw [show F=false by rw [w];simp [g,p1,p2,p4,V,S,T]]
   simp +contextual +decide (maxSteps:=1000000) only [↓ wP,wQ,tf,Nat.reduceAdd,wS,C,D,E,G,H,I,g,p1,p2,p4,V,S,T]
   refine J (kk:=.int .i64 0) false _ _ _ _ (aG) (aG) (aG) (aG) (aG) (qC) (aG) aD fun t k low o N u v e b y=>?_
   have q:=dQ (show 1<k by omega);exact uQ @e
end
end Go.Proofs.YtdipddlhenoglaaGreat
