/-
  The reference of programs: how many Kids, and nodes.
-/
import Derived.Test.YtdipddlhenoglaaGreatOa
set_option linter.unusedVariables false
set_option linter.unusedSimpArgs false
namespace Go.Proofs.YtdipddlhenoglaaGreat
open Go.Abs Go Go.Abs.TryzF
noncomputable section
set_option maxRecDepth 10000
def iJ (m k:Int):KidsK->Int
 | .fixed j=>j
 | .con=>k
 | .mat=>IntKind.i64.wrap (1+m)
 | .none=>-1
abbrev TP:List AV->Option AV:=sg3 (fun a b c=>dA a/\dA b/\dA c) fun a b c=>.int .i64 (iJ b.num c.num (bN a.num))
set_option maxHeartbeats 8000000 in
theorem rkids_ok:Abs.Ok Tryz.prog 192 TP:=ok3 fun a b c ⟨ha,⟨m,hb⟩,hc⟩=>by
 obtain ⟨op,rfl⟩:=ha;obtain ⟨k,rfl⟩:=hc;subst hb;refine aF (L:=[]) aE aN (by kernel_rfl) Tryz.func192 Tryz.ntmps192 Tryz.results192 rfl rfl (aA aV (aA aV (aA aV aD))) aV ?_;show Wk _ _ _ _ _ (jR _ _ (fun _ r=>r=.int .i64 (iJ m k (bN op))) _)
 rcases EI op with rfl | rfl | rfl | rfl | rfl | rfl | rfl | rfl | rfl | rfl | rfl | rfl | rfl | rfl | rfl | rfl | rfl | rfl | rfl | rfl | rfl | rfl | rfl | rfl | rfl | rfl | rfl | rfl | h
 case inr.inr.inr.inr.inr.inr.inr.inr.inr.inr.inr.inr.inr.inr.inr.inr.inr.inr.inr.inr.inr.inr.inr.inr.inr.inr.inr.inr=>
  refine wU @h ?_;simp [bN,h,iJ]
 all_goals refine zI ?_;rfl
def BG (nf:Int) (cs:List AV) (op n:Int):Bool:=
 if op=1 then pY n else if op=2 then inR n 0 1 else if op=4 then inR n (-nf) 29 else if op=24 then inR n 0 3 else if op=14 then inR n 0 ((cs.length:Int)-1) else decide (n=0)
def sV (c:Int) (cs:List AV) (x:AV):Bool:=
 let op:=(x.fld 0).num;let n:=(x.fld 1).num;let b:Int:=(x.fld 2).els.length;let a:Int:=(x.fld 3).els.length
 (BG c cs op n&&if op=15 then inR a 1 5 else decide (a=0))&&((x.fld 3).els.all (mR cs)&&decide (b=iJ a (if op=14 then ((cs.getD n.toNat .top).fld 1).num else 0) (bN op)))
theorem aWk {c:List AV} (h:∀ x∈c,wW x):∃ d,∀ x∈c,TPatN d x:=by
 induction c with
 | nil=>exact ⟨0,fun x a=>nomatch a⟩
 | cons y l k=>
   obtain ⟨d,f⟩:=k fun x a=>h x (List.mem_cons_of_mem _ a)
   obtain ⟨e,b⟩:=h y (List.mem_cons_self ..);refine ⟨d+e,fun x a=>?_⟩
   rcases List.mem_cons.1 a with rfl | a
   ·exact b.le aC
   ·exact (f x a).le aC
abbrev aOs (d:Nat):List kG:=[ent 128 gH,ent 191 (EG d),ent 102 (wK d),ent 192 TP]
set_option maxHeartbeats 2000000 in
theorem TQ {d:Nat} {ns fs mm cs ki pa:AV} {q D:List AV} {op n:Int} {kk:AV} (S:cs.els=D) (N:sG cs) (a:Sl pa q) (R:∀ x∈q,TPatN d x) (V:Code) (P:BH ((Tryz.f130).body.getD .skip)=some V) {Q:Ex->Env->Prop}
 (c:Bool) (t:Tr AV) (k low:Nat) (o:Tr AObj) (v:t.val 2=.ptr 0 0 0) (l:t.val 3=.ptr 1 0 0) (B:t.val 5=kk) (w:t.val 6=.bool c) (C:t.val 7=.int .i64 0) (E:o.get 0=some (aQ 0 [ns,fs,mm,cs])) (b:o.get 1=some (aQ 0 [.int .i64 op,.int .i64 n,ki,pa])) (y:2<=k)
 (T:∀ t k low o,t.val 2=.ptr 0 0 0->t.val 3=.ptr 1 0 0->t.val 5=kk->t.val 6=.bool (c&&q.all (mR D))->o.get 1=some (aQ 0 [.int .i64 op,.int .i64 n,ki,pa])->2<=k->Q (.exit 1) ⟨112,none,130,t,[],⟨k,low,o⟩,.no⟩):Wk Tryz.prog (orcL (aOs d)) (fun r=>(bif Nat.beq r 22 then [5,15] else bif Nat.beq r 23 then [11] else [],[])) V ⟨112,none,130,t,[],⟨k,low,o⟩,.no⟩ Q:=by
 cases P;have I:(c&&q.all (mR D))=(c&&(q.drop 0).all (mR D)):=rfl;generalize (c&&q.all (mR D))=W at *
 refine aL (fun i e=>∃ t k low o m,e=⟨112,none,130,t,[],⟨k,low,o⟩,.no⟩/\t.val 2=.ptr 0 0 0/\t.val 3=.ptr 1 0 0/\t.val 5=kk/\t.val 6=.bool m/\t.val 7=.int .i64 (i:Nat)/\o.get 0=some (aQ 0 [ns,fs,mm,cs])/\o.get 1=some (aQ 0 [.int .i64 op,.int .i64 n,ki,pa])/\2<=k/\i<=q.length/\W=(m&&(q.drop i).all (mR D))) (fun i=>q.length-i) 0
  ⟨t,k,low,o,c,rfl,v,l,B,w,C,E,b,y,Nat.zero_le _,I⟩ ?_
 clear v l B w C E b y I;rintro i _ ⟨t,k,low,o,m,rfl,v,l,B,w,C,E,b,y,hi,u⟩;have Y:=eM (show 0<k by omega);have L:=eM (show 1<k by omega)
 rcases Nat.lt_or_ge i q.length with A | O
 ·obtain ⟨x,f,hm,hg,Z,G,U,M⟩:=bB (fun x h=>(cI d).len h) R a.2 A
  have H:=fun {X:Option AV}=>(cI d).pf f (d:=X)
  rw [Z,List.all_cons,XP f]at u
  cases m with
  | false=>
    rw [Bool.false_and]at u;refine UN @l @w @C @b @L a.lX @M ?_;exact T _ _ _ _ (aM @v) (aM @l) (aM @B) (by rw [u];exact aM @w) b y
  | true=>
    have he:EG d [x,cs]=some (.bool (jJ D d x)):=by rw [EG,sg2_eq ⟨f,N⟩,S]
    have F:wK d [x,.int .i64 12]=some (.int .i64 (wN d x 12)):=sg2_eq ⟨f,_,rfl,aC,aC⟩;have J:=XL d x 12 f aC;rw [Bool.true_and]at u;by_cases k1:pT d x<=12
    ·have k2:(wN d x 12 ≥ 0)=True:=eq_true (by rw [J];split<;>omega)
     have aa:((0:Int)<=wN d x 12)=True:=k2;rw [decide_eq_true k1,Bool.true_and]at u;refine PK @v @l @w @C @E @b @Y @L a.lX a.iX @G @M @H @he @F @k2 @U ?_;exact ⟨i+1,by show _-_<_-_;omega,_,_,_,_,_,rfl,aM @v,aM @l,aM @B,aG,aG,by simp +decide only [E],by simp +decide only [b],y,A,u⟩
    ·have k2:(wN d x 12 ≥ 0)=False:=eq_false (by rw [J];split<;>omega)
     rw [decide_eq_false k1,Bool.false_and]at u;refine tI @l @w @C @b @L a.lX a.iX @G @M @H @F @k2 @U ?_;exact ⟨i+1,by show _-_<_-_;omega,_,_,_,_,_,rfl,aM @v,aM @l,aM @B,aG,aG,by simp +decide only [E],by simp +decide only [b],y,A,u⟩
 ·obtain rfl:i=q.length:=Nat.le_antisymm hi O
  rw [List.drop_length,List.all_nil,Bool.and_true]at u;refine PJ @l @C @b @L a.lX @bH ?_;exact T _ _ _ _ (aM @v) (aM @l) (aM @B) (by rw [u];exact aM @w) b y
set_option maxHeartbeats 16000000 in
theorem aFz {ns fs mm cs:AV} (h:PG ns fs mm cs) (x:AV) (hx:eL x):Abs.Returns Tryz.prog 130 [pg ns fs mm cs,x] (.bool (sV fs.els.length cs.els x)):=by
 have ah:=(tk_node x hx).1;obtain ⟨_,_,ki,pa,rfl,⟨op,rfl⟩,⟨n,rfl⟩,A,hp⟩:=hx;have I:=(aT _ A).2;have J:=(eG _ hp).2;obtain ⟨D,E,G,H⟩:=h.cells;obtain ⟨C,a,ac⟩:=hp;obtain ⟨xf,V,ak⟩:=h.fs;obtain ⟨xk,l,al⟩:=A;obtain ⟨d,ag⟩:=aWk ac;have Z:=h.cs;obtain ⟨B,P,ae⟩:=h.cs;have w1:=bY P.2;have hl:=a.2;have aj:=V.2
 have wn:IntKind.i64.wrap (0-((xf.length:Nat):Int))=-((xf.length:Nat):Int):=by rw [IntWalk.i64_in _ aC];omega
 refine aF (L:=aOs d) (elist_cons rIn5_ok.ent (elist_cons (XM d).ent (elist_cons (EF d).ent (elist_cons rkids_ok.ent aE)))) (fun r=>(bif Nat.beq r 22 then [5,15] else bif Nat.beq r 23 then [11] else [],[])) (by kernel_rfl) Tryz.func130 Tryz.ntmps130 Tryz.results130 rfl rfl (aA h.und.und (aA ah.und aD)) aJ ?_
 have Y:sV fs.els.length cs.els (.agg [.int .i64 op,.int .i64 n,ki,pa])=((BG xf.length B op n&&if op=15 then inR (C.length:Nat) 1 5 else decide (((C.length:Nat):Int)=0))&&(C.all (mR B)&&decide (((xk.length:Nat):Int)=iJ (C.length:Nat) (if op=14 then ((B.getD n.toNat .top).fld 1).num else 0) (bN op)))):=by
  rw [<-a.els,<-P.els,<-V.els,<-l.els];rfl
 rw [Y];clear Y
 have f:∀ k:Int,TP [.int .i64 op,.int .i64 (C.length:Nat),.int .i64 k]=some (.int .i64 (iJ (C.length:Nat) k (bN op))):=fun k=>kP ⟨⟨_,rfl⟩,⟨_,rfl⟩,⟨_,rfl⟩⟩
 have M:=fun {kk:AV} {Q:Ex->Env->Prop}=>TQ (ns:=ns) (fs:=fs) (mm:=mm) (ki:=ki) (op:=op) (n:=n) (kk:=kk) P.els Z a ag _ rfl (Q:=Q)
 have R:∃ K,K=iJ (C.length:Nat) (if op=14 then ((B.getD n.toNat .top).fld 1).num else 0) (bN op):=⟨_,rfl⟩
 obtain ⟨K,R⟩:=R;rw [<-R]
 have y:∃ F,F=(BG xf.length B op n&&if op=15 then inR (C.length:Nat) 1 5 else decide (((C.length:Nat):Int)=0)):=⟨_,rfl⟩
 obtain ⟨F,y⟩:=y;rw [<-y];unfold BG pY at y
 rcases (by omega:op=1∨op=2∨op=4∨op=24∨op=14∨op=15∨(op≠1/\op≠2/\op≠4/\op≠24/\op≠14/\op≠15)) with rfl | rfl | rfl | rfl | rfl | rfl | ⟨p1,p2,p4,X,T,U⟩
 ·have q:(if (1:Int)=14 then ((B.getD n.toNat .top).fld 1).num else 0)=0:=by simp
  cases g:inR n (-1000000000) 1000000000 with
  | false=>
    rw [show F=false by rw [y];simp [g]];simp +contextual +decide (maxSteps:=1000000) only [↓ wP,wQ,tf,Nat.reduceAdd,wS,D,E,G,H,I,J,aH,g]
    refine M (kk:=.int .i64 0) false _ _ _ _ (aG) (aG) (aG) (aG) (aG) (qO) (aG) aC fun t k low o O v w e b A=>?_
    have u:=eM (show 1<k by omega);exact sK @e
  | true=>
    by_cases b:((C.length:Nat):Int)=0
    ·rw [show F=true by rw [y];rw [decide_eq_true b];simp [g]]
     simp +contextual +decide (maxSteps:=1000000) only [↓ wP,wQ,tf,Nat.reduceAdd,wS,D,E,G,H,I,J,a.len,aH,g,b]
     refine M (kk:=.int .i64 0) true _ _ _ _ (aG) (aG) (aG) (aG) (aG) (qO) (aG) aC fun t k low o O v w e b A=>?_
     have u:=eM (show 1<k by omega);rw [Bool.true_and]at e
     cases N:C.all (mR B) with
     | false=>exact LW @e @N
     | true=>
       have S:=f 0;rw [q]at R;simp +contextual +decide (maxSteps:=1000000) only [↓ wP,wQ,tf,Nat.reduceAdd,wS,v,w,e,b,u,N,a.len,l.len,a.stab,l.stab,S,<-R]
    ·rw [show F=false by rw [y];rw [decide_eq_false b];simp]
     simp +contextual +decide (maxSteps:=1000000) only [↓ wP,wQ,tf,Nat.reduceAdd,wS,D,E,G,H,I,J,a.len,aH,g,b]
     refine M (kk:=.int .i64 0) false _ _ _ _ (aG) (aG) (aG) (aG) (aG) (qO) (aG) aC fun t k low o O v w e b A=>?_
     have u:=eM (show 1<k by omega);exact sK @e
 ·have q:(if (2:Int)=14 then ((B.getD n.toNat .top).fld 1).num else 0)=0:=by simp
  cases g:inR n 0 1 with
  | false=>
    rw [show F=false by rw [y];simp [g]];simp +contextual +decide (maxSteps:=1000000) only [↓ wP,wQ,tf,Nat.reduceAdd,wS,D,E,G,H,I,J,aH,g]
    refine M (kk:=.int .i64 0) false _ _ _ _ (aG) (aG) (aG) (aG) (aG) (qO) (aG) aC fun t k low o O v w e b A=>?_
    have u:=eM (show 1<k by omega);exact sK @e
  | true=>
    by_cases b:((C.length:Nat):Int)=0
    ·rw [show F=true by rw [y];rw [decide_eq_true b];simp [g]]
     simp +contextual +decide (maxSteps:=1000000) only [↓ wP,wQ,tf,Nat.reduceAdd,wS,D,E,G,H,I,J,a.len,aH,g,b]
     refine M (kk:=.int .i64 0) true _ _ _ _ (aG) (aG) (aG) (aG) (aG) (qO) (aG) aC fun t k low o O v w e b A=>?_
     have u:=eM (show 1<k by omega);rw [Bool.true_and]at e
     cases N:C.all (mR B) with
     | false=>exact LW @e @N
     | true=>
       have S:=f 0;rw [q]at R;simp +contextual +decide (maxSteps:=1000000) only [↓ wP,wQ,tf,Nat.reduceAdd,wS,v,w,e,b,u,N,a.len,l.len,a.stab,l.stab,S,<-R]
    ·rw [show F=false by rw [y];rw [decide_eq_false b];simp]
     simp +contextual +decide (maxSteps:=1000000) only [↓ wP,wQ,tf,Nat.reduceAdd,wS,D,E,G,H,I,J,a.len,aH,g,b]
     refine M (kk:=.int .i64 0) false _ _ _ _ (aG) (aG) (aG) (aG) (aG) (qO) (aG) aC fun t k low o O v w e b A=>?_
     have u:=eM (show 1<k by omega);exact sK @e
 ·have q:(if (4:Int)=14 then ((B.getD n.toNat .top).fld 1).num else 0)=0:=by simp
  cases g:inR n (-((xf.length:Nat):Int)) 29 with
  | false=>
    rw [show F=false by rw [y];simp [g]];simp +contextual +decide (maxSteps:=1000000) only [↓ wP,wQ,tf,Nat.reduceAdd,wS,D,E,G,H,I,J,V.len,wn,aH,g]
    refine M (kk:=.int .i64 0) false _ _ _ _ (aG) (aG) (aG) (aG) (aG) (qO) (aG) aC fun t k low o O v w e b A=>?_
    have u:=eM (show 1<k by omega);exact sK @e
  | true=>
    by_cases b:((C.length:Nat):Int)=0
    ·rw [show F=true by rw [y];rw [decide_eq_true b];simp [g]]
     simp +contextual +decide (maxSteps:=1000000) only [↓ wP,wQ,tf,Nat.reduceAdd,wS,D,E,G,H,I,J,V.len,a.len,wn,aH,g,b]
     refine M (kk:=.int .i64 0) true _ _ _ _ (aG) (aG) (aG) (aG) (aG) (qO) (aG) aC fun t k low o O v w e b A=>?_
     have u:=eM (show 1<k by omega);rw [Bool.true_and]at e
     cases N:C.all (mR B) with
     | false=>exact LW @e @N
     | true=>
       have S:=f 0;rw [q]at R;simp +contextual +decide (maxSteps:=1000000) only [↓ wP,wQ,tf,Nat.reduceAdd,wS,v,w,e,b,u,N,a.len,l.len,a.stab,l.stab,S,<-R]
    ·rw [show F=false by rw [y];rw [decide_eq_false b];simp]
     simp +contextual +decide (maxSteps:=1000000) only [↓ wP,wQ,tf,Nat.reduceAdd,wS,D,E,G,H,I,J,V.len,a.len,wn,aH,g,b]
     refine M (kk:=.int .i64 0) false _ _ _ _ (aG) (aG) (aG) (aG) (aG) (qO) (aG) aC fun t k low o O v w e b A=>?_
     have u:=eM (show 1<k by omega);exact sK @e
 ·have q:(if (24:Int)=14 then ((B.getD n.toNat .top).fld 1).num else 0)=0:=by simp
  cases g:inR n 0 3 with
  | false=>
    rw [show F=false by rw [y];simp [g]];simp +contextual +decide (maxSteps:=1000000) only [↓ wP,wQ,tf,Nat.reduceAdd,wS,D,E,G,H,I,J,aH,g]
    refine M (kk:=.int .i64 0) false _ _ _ _ (aG) (aG) (aG) (aG) (aG) (qO) (aG) aC fun t k low o O v w e b A=>?_
    have u:=eM (show 1<k by omega);exact sK @e
  | true=>
    by_cases b:((C.length:Nat):Int)=0
    ·rw [show F=true by rw [y];rw [decide_eq_true b];simp [g]]
     simp +contextual +decide (maxSteps:=1000000) only [↓ wP,wQ,tf,Nat.reduceAdd,wS,D,E,G,H,I,J,a.len,aH,g,b]
     refine M (kk:=.int .i64 0) true _ _ _ _ (aG) (aG) (aG) (aG) (aG) (qO) (aG) aC fun t k low o O v w e b A=>?_
     have u:=eM (show 1<k by omega);rw [Bool.true_and]at e
     cases N:C.all (mR B) with
     | false=>exact LW @e @N
     | true=>
       have S:=f 0;rw [q]at R;simp +contextual +decide (maxSteps:=1000000) only [↓ wP,wQ,tf,Nat.reduceAdd,wS,v,w,e,b,u,N,a.len,l.len,a.stab,l.stab,S,<-R]
    ·rw [show F=false by rw [y];rw [decide_eq_false b];simp]
     simp +contextual +decide (maxSteps:=1000000) only [↓ wP,wQ,tf,Nat.reduceAdd,wS,D,E,G,H,I,J,a.len,aH,g,b]
     refine M (kk:=.int .i64 0) false _ _ _ _ (aG) (aG) (aG) (aG) (aG) (qO) (aG) aC fun t k low o O v w e b A=>?_
     have u:=eM (show 1<k by omega);exact sK @e
 ·have q:(if (14:Int)=14 then ((B.getD n.toNat .top).fld 1).num else 0)=((B.getD n.toNat .top).fld 1).num:=by simp
  cases g:inR n 0 ((B.length:Nat)-1) with
  | false=>
    rw [show F=false by rw [y];simp [g]];simp +contextual +decide (maxSteps:=1000000) only [↓ wP,wQ,tf,Nat.reduceAdd,wS,D,E,G,H,I,J,P.len,w1,aH,g]
    refine M (kk:=.int .i64 0) false _ _ _ _ (aG) (aG) (aG) (aG) (aG) (qO) (aG) aC fun t k low o O v w e b A=>?_
    have u:=eM (show 1<k by omega);exact sK @e
  | true=>
    obtain ⟨i,rfl,af⟩:∃ i:Nat,n=i/\i<B.length:=by
     simp [inR]at g;exact ⟨n.toNat,aC,aC⟩
    obtain ⟨x,ad,hm,hg,hd,ab,hw,hc⟩:=bB (fun x h=>tk_con.len h) ae P.2 af;obtain ⟨_,_,rfl,⟨c,rfl,ai⟩,⟨m,rfl⟩⟩:=ad
    have aa:B.getD (i:Int).toNat .top=.agg [.str c,.int .i64 m]:=by simp [hg]
    rw [aa,show ((AV.agg [.str c,.int .i64 m]).fld 1).num=m from rfl]at q R;by_cases b:((C.length:Nat):Int)=0
    ·rw [show F=true by rw [y];rw [decide_eq_true b];simp [g]]
     simp +contextual +decide (maxSteps:=1000000) only [↓ wP,wQ,tf,Nat.reduceAdd,wS,D,E,G,H,I,J,P.len,a.len,w1,aH,g,b,P.idx,ab]
     refine M (kk:=.int .i64 m) true _ _ _ _ (aG) (aG) (aG) (aG) (aG) (qO) (aG) aC fun t k low o O v w e b A=>?_
     have u:=eM (show 1<k by omega);rw [Bool.true_and]at e
     cases N:C.all (mR B) with
     | false=>exact LW @e @N
     | true=>
       have S:=f m;rw [q]at R;simp +contextual +decide (maxSteps:=1000000) only [↓ wP,wQ,tf,Nat.reduceAdd,wS,v,w,e,b,u,N,a.len,l.len,a.stab,l.stab,S,<-R]
    ·rw [show F=false by rw [y];rw [decide_eq_false b];simp]
     simp +contextual +decide (maxSteps:=1000000) only [↓ wP,wQ,tf,Nat.reduceAdd,wS,D,E,G,H,I,J,P.len,a.len,w1,aH,g,b,P.idx,ab]
     refine M (kk:=.int .i64 m) false _ _ _ _ (aG) (aG) (aG) (aG) (aG) (qO) (aG) aC fun t k low o O v w e b A=>?_
     have u:=eM (show 1<k by omega);exact sK @e
 ·have q:(if (15:Int)=14 then ((B.getD n.toNat .top).fld 1).num else 0)=0:=by simp
  by_cases g:n=0
  ·subst g
   have g:(0:Int)=0:=rfl
   cases b:inR (C.length:Nat) 1 5 with
   | false=>
     rw [show F=false by rw [y];simp [b]];refine UO @D @E @G @H @I @J a.lX @aH @b ?_
     refine M (kk:=.int .i64 0) false _ _ _ _ (aG) (aG) (aG) (aG) (aG) (qO) (aG) aC fun t k low o O v w e b A=>?_
     have u:=eM (show 1<k by omega);exact sK @e
   | true=>
     rw [show F=true by rw [y];simp [b]];refine UO @D @E @G @H @I @J a.lX @aH @b ?_
     refine M (kk:=.int .i64 0) true _ _ _ _ (aG) (aG) (aG) (aG) (aG) (qO) (aG) aC fun t k low o O v w e b A=>?_
     have u:=eM (show 1<k by omega);rw [Bool.true_and]at e
     cases N:C.all (mR B) with
     | false=>exact LW @e @N
     | true=>
       have S:=f 0;rw [q]at R;simp +contextual +decide (maxSteps:=1000000) only [↓ wP,wQ,tf,Nat.reduceAdd,wS,v,w,e,b,u,N,a.len,l.len,a.stab,l.stab,S,<-R]
  ·rw [show F=false by rw [y];simp [g]]
   simp +contextual +decide (maxSteps:=1000000) only [↓ wP,wQ,tf,Nat.reduceAdd,wS,D,E,G,H,I,J,g]
   refine M (kk:=.int .i64 0) false _ _ _ _ (aG) (aG) (aG) (aG) (aG) (qO) (aG) aC fun t k low o O v w e b A=>?_
   have u:=eM (show 1<k by omega);exact sK @e
 ·have q:(if op=14 then ((B.getD n.toNat .top).fld 1).num else 0)=0:=by simp [T]
  by_cases g:n=0
  ·subst g
   have g:(0:Int)=0:=rfl;by_cases b:((C.length:Nat):Int)=0
   ·rw [show F=true by rw [y];rw [decide_eq_true b];simp [p1,p2,p4,X,T,U]]
    refine CE @D @E @G @H @I @J a.lX @b @p1 @p2 @p4 @X @T @U ?_
    refine M (kk:=.int .i64 0) true _ _ _ _ (aG) (aG) (aG) (aG) (aG) (qO) (aG) aC fun t k low o O v w e b A=>?_
    have u:=eM (show 1<k by omega);rw [Bool.true_and]at e
    cases N:C.all (mR B) with
    | false=>exact LW @e @N
    | true=>
      have S:=f 0;rw [q]at R;simp +contextual +decide (maxSteps:=1000000) only [↓ wP,wQ,tf,Nat.reduceAdd,wS,v,w,e,b,u,N,a.len,l.len,a.stab,l.stab,S,<-R]
   ·rw [show F=false by rw [y];rw [decide_eq_false b];simp [U]]
    refine CE @D @E @G @H @I @J a.lX @b @p1 @p2 @p4 @X @T @U ?_
    refine M (kk:=.int .i64 0) false _ _ _ _ (aG) (aG) (aG) (aG) (aG) (qO) (aG) aC fun t k low o O v w e b A=>?_
    have u:=eM (show 1<k by omega);exact sK @e
  ·rw [show F=false by rw [y];simp [g,p1,p2,p4,X,T,U]]
   simp +contextual +decide (maxSteps:=1000000) only [↓ wP,wQ,tf,Nat.reduceAdd,wS,D,E,G,H,I,J,g,p1,p2,p4,X,T,U]
   refine M (kk:=.int .i64 0) false _ _ _ _ (aG) (aG) (aG) (aG) (aG) (qO) (aG) aC fun t k low o O v w e b A=>?_
   have u:=eM (show 1<k by omega);exact sK @e
end
end Go.Proofs.YtdipddlhenoglaaGreat
