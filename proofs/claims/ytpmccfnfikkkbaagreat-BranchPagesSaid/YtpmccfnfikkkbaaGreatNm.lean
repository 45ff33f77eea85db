/-
  The reference of meanings: worlds as they are defined.
-/
import Derived.Test.YtpmccfnfikkkbaaGreatNk
set_option linter.unusedVariables false
set_option linter.unusedSimpArgs false
namespace Go.Proofs.YtpmccfnfikkkbaaGreat
open Go.Abs Go Go.Abs.TryzF
noncomputable section
set_option maxRecDepth 10000
def kJ (a:Int) (xs:List AV):Bool:=decide ((xs.length:Int)<=a)&&xs.all fun x=>qK x.num
abbrev VK:List AV->Option AV:=wK (fun a b=>kP a/\dO b) fun a b=>.bool (kJ b.num a.els)
theorem rInts_ok:Abs.Ok Tryz.prog 136 VK:=ok2 fun a b ⟨J,M⟩=>by
 obtain ⟨c,rfl⟩:=M;have G:=(aV a J).1;obtain ⟨xs,k,H⟩:=J;have Q:=k.2;refine aF (L:=[ent 137 iC]) (elist_cons rIn6_ok.ent aE) aG (by kernel_rfl) Tryz.func136 Tryz.ntmps136 Tryz.results136 rfl rfl (aA G.und (aA aO aD)) aI ?_;rw [k.els,show (AV.int .i64 c).num=c from rfl];simp +contextual +decide (maxSteps:=1000000) only [↓ wP,wQ];refine aN (fun i e=>∃ t n low o,e=⟨27,none,136,t,[],⟨n,low,o⟩,.no⟩/\t.val 0=a/\t.val 1=.int .i64 c/\t.val 5=.int .i64 (i:Nat)/\0<=n/\i<=xs.length/\kJ c xs=(decide ((xs.length:Int)<=c)&&(xs.drop i).all fun x=>qK x.num)) (fun i=>xs.length-i) 0 ⟨_,_,_,_,rfl,by simp +decide only [↓ aB,bN,aZ],by simp +decide only [↓ aB,bN,aZ],by simp +decide only [↓ aB];rfl,by omega,Nat.zero_le _,rfl⟩ ?_;rintro i _ ⟨t,n,low,o,rfl,w,A,C,V,O,f⟩
 rcases Nat.lt_or_ge i xs.length with u | F
 ·obtain ⟨y,m,U,T,N,r,R,E⟩:=cO (fun x h=>tu_int.len h) H Q u
  rw [N,List.all_cons]at f
  have v:=fun {d:Option AV}=>tu_int.pf m (d:=d)
  obtain ⟨z,rfl⟩:=m;by_cases I:((i:Nat):Int)<=c
  ·cases B:qK z with
   | false=>
     rw [show (AV.int .i64 z).num=z from rfl,B,Bool.false_and,Bool.and_false]at f;have l:inR z (-1000000000) 1000000000=false:=B;simp +contextual +decide (maxSteps:=1000000) only [↓ wP,wQ,tf,wS,w,A,C,k.len,k.idx,r,E,v,I,aH,l,f]
   | true=>
     rw [show (AV.int .i64 z).num=z from rfl,B,Bool.true_and]at f;have l:inR z (-1000000000) 1000000000=true:=B;simp +contextual +decide (maxSteps:=1000000) only [↓ wP,wQ,tf,wS,w,A,C,k.len,k.idx,r,E,v,I,aH,l,R];exact ⟨i+1,by show _-_<_-_;omega,_,_,_,_,rfl,by simp +decide only [↓ aB,w],by simp +decide only [↓ aB,A],by simp +decide only [↓ aB],by omega,u,f⟩
  ·have q:(((xs.length:Nat):Int)<=c)=False:=eq_false (by omega)
   rw [decide_eq_false (fun h=>(q ▸ h:False)),Bool.false_and]at f;simp +contextual +decide (maxSteps:=1000000) only [↓ wP,wQ,tf,wS,w,A,C,k.len,E,I,q,f]
 ·obtain rfl:i=xs.length:=Nat.le_antisymm O F
  rw [List.drop_length,List.all_nil,Bool.and_true]at f;simp +contextual +decide (maxSteps:=1000000) only [↓ wP,wQ,tf,wS,w,A,C,k.len,bP,f]
abbrev yS:List AV->Option AV:=wK (fun a b=>kP a/\dO b) fun a b=>.bool (a.els.any fun x=>decide (x.num=b.num))
theorem rlisted_ok:Abs.Ok Tryz.prog 215 yS:=ok2 fun a b ⟨F,H⟩=>by
 obtain ⟨m,rfl⟩:=H;have A:=(aV a F).1;obtain ⟨xs,f,B⟩:=F;have M:=f.2;refine aF (L:=[]) aE aG (by kernel_rfl) Tryz.func215 Tryz.ntmps215 Tryz.results215 rfl rfl (aA A.und (aA aO aD)) aI ?_;rw [f.els,show (AV.int .i64 m).num=m from rfl];simp +contextual +decide (maxSteps:=1000000) only [↓ wP,wQ];refine aN (fun i e=>∃ t n low o,e=⟨18,none,215,t,[],⟨n,low,o⟩,.no⟩/\t.val 0=a/\t.val 1=.int .i64 m/\t.val 5=.int .i64 (i:Nat)/\0<=n/\i<=xs.length/\(xs.any fun x=>decide (x.num=m))=((xs.drop i).any fun x=>decide (x.num=m))) (fun i=>xs.length-i) 0 ⟨_,_,_,_,rfl,by simp +decide only [↓ aB,bN,aZ],by simp +decide only [↓ aB,bN,aZ],by simp +decide only [↓ aB];rfl,by omega,Nat.zero_le _,rfl⟩ ?_;rintro i _ ⟨t,n,low,o,rfl,u,C,E,R,J,c⟩
 rcases Nat.lt_or_ge i xs.length with q | v
 ·obtain ⟨y,k,Q,O,I,l,N,G⟩:=cO (fun x h=>tu_int.len h) B M q
  rw [I,List.any_cons]at c
  have w:=fun {d:Option AV}=>tu_int.pf k (d:=d)
  obtain ⟨z,rfl⟩:=k;by_cases r:z=m
  ·rw [show (AV.int .i64 z).num=z from rfl,decide_eq_true r,Bool.true_or]at c
   simp +contextual +decide (maxSteps:=1000000) only [↓ wP,wQ,tf,wS,u,C,E,f.len,f.idx,l,G,r,c]
  ·rw [show (AV.int .i64 z).num=z from rfl,decide_eq_false r,Bool.false_or]at c
   simp +contextual +decide (maxSteps:=1000000) only [↓ wP,wQ,tf,wS,u,C,E,f.len,f.idx,l,G,w,r,N];exact ⟨i+1,by show _-_<_-_;omega,_,_,_,_,rfl,by simp +decide only [↓ aB,u],by simp +decide only [↓ aB,C],by simp +decide only [↓ aB],by omega,q,c⟩
 ·obtain rfl:i=xs.length:=Nat.le_antisymm J v
  rw [List.drop_length,List.any_nil]at c;simp +contextual +decide (maxSteps:=1000000) only [↓ wP,wQ,tf,wS,u,E,f.len,bP,c]
def oC (os:List AV):List AV->List AV->Bool
 | _,[]=>true
 | pre,x::l=>mJ os x.num && !(pre.any fun y=>decide (y.num=x.num))&&oC os (pre++[x]) l
def iS (os a:List AV):Bool:=decide ((a.length:Int)=(dN os:Nat))&&oC os [] a
theorem QL {xs:List AV} {x:AV} {i:Nat} (h:xs[i]?=some x):dN (xs.take (i+1))=dN (xs.take i)+(if (x.fld 0).num=6 then 1 else 0):=by
 rw [List.take_add_one,h,dN,dN,List.filter_append,List.length_append];by_cases a:(x.fld 0).num=6<;>simp [a]
theorem rS (xs:List AV) (i:Nat):dN xs=dN (xs.take i)+dN (xs.drop i):=by rw [dN,dN,dN,<-List.length_append,<-List.filter_append,List.take_append_drop]
theorem aCe (xs:List AV):dN xs<=xs.length:=List.length_filter_le _ _
abbrev LY:List AV->Option AV:=vE BS fun w=>.bool (iS (w.fld 0).els (w.fld 1).els)
set_option maxHeartbeats 4000000 in
theorem rtasks_ok:Abs.Ok Tryz.prog 138 LY:=AH fun w Q=>by
 have ag:=(tk_wd w Q).1;obtain ⟨os,ts,us,is,uu,rfl,ho,ht,hu,U,hv⟩:=Q;have c1:=(mI _ ho).2;have c2:=(aV _ ht).2;have c3:=(kK _ hu).2;have c4:=(aV _ U).2;have c5:=(tu_int _ hv).2;obtain ⟨xs,a,Y⟩:=ho;obtain ⟨c,I,R⟩:=ht;have hl:=a.2;have ad:=I.2;have w1:=bV a.2;refine aF (L:=[ent 137 iC,ent 215 yS]) (elist_cons rIn6_ok.ent (elist_cons rlisted_ok.ent aE)) aG (by kernel_rfl) Tryz.func138 Tryz.ntmps138 Tryz.results138 rfl rfl (aA ag.und aD) aI ?_;show Wk _ _ _ _ _ (jM _ _ (fun _ r=>r=.bool (iS os.els ts.els)) _);rw [a.els,I.els];simp +contextual +decide (maxSteps:=1000000) only [↓ wP,wQ,Nat.reduceAdd,wS,c1,c2,c3,c4,c5];refine aN (fun i e=>∃ t n low o,e=⟨62,none,138,t,[],⟨n,low,o⟩,.no⟩/\t.val 1=.ptr 0 0 0/\t.val 3=.int .i64 ((dN (xs.take i):Nat):Int)/\t.val 4=.int .i64 (i:Nat)/\o.get 0=some (aW 0 [os,ts,us,is,uu])/\1<=n/\i<=xs.length/\dN xs=dN (xs.take i)+dN (xs.drop i)) (fun i=>xs.length-i) 0 ⟨_,_,_,_,rfl,by simp +decide only [↓ aB],by simp +decide only [↓ aB];rfl,by simp +decide only [↓ aB];rfl,by simp +decide only [↓ aB],by omega,Nat.zero_le _,rS _ _⟩ ?_;rintro i _ ⟨t,n,low,o,rfl,B,C,t4,q,hn,U,l⟩;have H:=bK (show 0<n by omega)
 rcases Nat.lt_or_ge i xs.length with A | M
 ·obtain ⟨y,E,hm,hg,hd,f,Q,hc⟩:=cO (fun x h=>tk_ob.len h) Y hl A
  have G:=fun {d:Option AV}=>tk_ob.pf E (d:=d)
  have T:=QL hg;have ac:=aCe (xs.take i);rw [List.length_take]at ac;obtain ⟨_,_,v,g,rfl,⟨k,rfl⟩,⟨m,rfl⟩,O,J⟩:=E;have cv:=(bI _ O).2;have cg:=(lE _ J).2
  have ah:IntKind.i64.wrap (((dN (xs.take i):Nat):Int)+1)=((dN (xs.take i)+1:Nat):Int):=by rw [IntWalk.i64_in _ (by omega)];rfl
  by_cases k6:k=6
  ·rw [show ((AV.agg [.int .i64 k,.int .i64 m,v,g]).fld 0).num=k from rfl,if_pos k6]at T
   simp +contextual +decide (maxSteps:=1000000) only [↓ wP,wQ,tf,Nat.reduceAdd,wS,B,C,t4,q,H,a.len,a.idx,f,hc,k6,Q,ah];exact ⟨i+1,by show _-_<_-_;omega,_,_,_,_,rfl,by simp +decide only [↓ aB,B],by simp +decide only [↓ aB,T],by simp +decide only [↓ aB],by simp +decide only [q],by omega,A,rS _ _⟩
  ·rw [show ((AV.agg [.int .i64 k,.int .i64 m,v,g]).fld 0).num=k from rfl,if_neg k6]at T
   simp only [Nat.add_zero]at T;simp +contextual +decide (maxSteps:=1000000) only [↓ wP,wQ,tf,Nat.reduceAdd,wS,B,t4,q,H,a.len,a.idx,f,hc,k6,Q];exact ⟨i+1,by show _-_<_-_;omega,_,_,_,_,rfl,by simp +decide only [↓ aB,B],by simp +decide only [↓ aB,C,T],by simp +decide only [↓ aB],by simp +decide only [q],by omega,A,rS _ _⟩
 ·obtain rfl:i=xs.length:=Nat.le_antisymm U M
  rw [List.take_length]at C;clear l
  by_cases k1:((c.length:Nat):Int)=((dN xs:Nat):Int)
  ·have aj:c.length=dN xs:=by omega
   have N:iS xs c=oC xs [] c:=by rw [iS,decide_eq_true k1,Bool.true_and]
   rw [N];simp +contextual +decide (maxSteps:=1000000) only [↓ wP,wQ,tf,Nat.reduceAdd,wS,B,C,t4,q,H,a.len,bP,I.len,k1];refine aN (fun i e=>∃ t n low o,e=⟨62,none,138,t,[],⟨n,low,o⟩,.no⟩/\t.val 1=.ptr 0 0 0/\t.val 3=.int .i64 ((dN xs:Nat):Int)/\t.val 5=.int .i64 (i:Nat)/\o.get 0=some (aW 0 [os,ts,us,is,uu])/\1<=n/\i<=c.length/\oC xs [] c=oC xs (c.take i) (c.drop i)) (fun i=>c.length-i) 0 ⟨_,_,_,_,rfl,by simp +decide only [↓ aB,B],by simp +decide only [↓ aB,C],by simp +decide only [↓ aB];rfl,by simp +decide only [q],by omega,Nat.zero_le _,rfl⟩ ?_;rintro i _ ⟨t,n,low,o,rfl,B,C,Z,q,hn,U,l⟩;have H:=bK (show 0<n by omega)
   rcases Nat.lt_or_ge i c.length with A | M
   ·obtain ⟨y,E,hm,hg,hd,f,Q,hc⟩:=cO (fun x h=>tu_int.len h) R ad A
    have G:=fun {d:Option AV}=>tu_int.pf E (d:=d)
    have u:(((i:Nat):Int)<((dN xs:Nat):Int))=True:=eq_true (by omega);obtain ⟨b,hb,X⟩:=I.upto (k:=1) (fun x hm=>tu_int.len (R x hm)) (n:=((i:Nat):Int)) (by omega) (by omega);rw [Int.toNat_natCast]at hb
    have af:c.take (i+1)=c.take i++[y]:=by rw [List.take_add_one,hg];rfl
    obtain ⟨z,rfl⟩:=E
    have V:yS [b,.int .i64 z]=some (.bool ((c.take i).any fun x=>decide (x.num=z))):=by
     rw [yS,sg2_eq ⟨⟨_,hb,fun x hx=>R x (List.mem_of_mem_take hx)⟩,_,rfl⟩,hb.els];rfl
    rw [hd,oC,show (AV.int .i64 z).num=z from rfl,<-af]at l
    cases k2:inR z 0 ((xs.length:Int)-1) with
    | false=>
      rw [mJ,k2,Bool.false_and,Bool.false_and,Bool.false_and]at l;simp +contextual +decide (maxSteps:=1000000) only [↓ wP,wQ,tf,Nat.reduceAdd,wS,B,C,Z,q,H,a.len,I.idx,f,u,G,w1,aH,k2,l]
    | true=>
      obtain ⟨o',aa,_,ae,F,ai,_,_⟩:=oD tk_ob Y k2;obtain ⟨_,_,v,g,rfl,⟨k,rfl⟩,⟨m,rfl⟩,O,J⟩:=aa;have cv:=(bI _ O).2;have cg:=(lE _ J).2
      have ab:mJ xs z=decide (k=6):=by rw [mJ,k2,Bool.true_and,ae];rfl
      rw [ab]at l;by_cases k6:k=6
      ·rw [decide_eq_true k6,Bool.true_and]at l
       cases k3:(c.take i).any fun x=>decide (x.num=z) with
       | true=>
         rw [k3,Bool.not_true,Bool.false_and]at l;simp +contextual +decide (maxSteps:=1000000) only [↓ wP,wQ,tf,Nat.reduceAdd,wS,B,C,Z,q,H,a.len,a.idx,I.idx,f,F,u,G,w1,aH,k2,k6,X,V,k3,l]
       | false=>
         rw [k3,Bool.not_false,Bool.true_and]at l;simp +contextual +decide (maxSteps:=1000000) only [↓ wP,wQ,tf,Nat.reduceAdd,wS,B,C,Z,q,H,a.len,a.idx,I.idx,f,F,u,G,w1,aH,k2,k6,X,V,k3,Q];exact ⟨i+1,by show _-_<_-_;omega,_,_,_,_,rfl,by simp +decide only [↓ aB,B],by simp +decide only [↓ aB,C],by simp +decide only [↓ aB],by simp +decide only [q],by omega,A,l⟩
      ·rw [decide_eq_false k6,Bool.false_and,Bool.false_and]at l
       simp +contextual +decide (maxSteps:=1000000) only [↓ wP,wQ,tf,Nat.reduceAdd,wS,B,C,Z,q,H,a.len,a.idx,I.idx,f,F,u,G,w1,aH,k2,k6,l]
   ·obtain rfl:i=c.length:=Nat.le_antisymm U M
    have u:(((c.length:Nat):Int)<((dN xs:Nat):Int))=False:=eq_false (by omega);rw [List.drop_length,oC]at l;simp +contextual +decide (maxSteps:=1000000) only [↓ wP,wQ,wS,C,Z,u,l]
  ·simp +contextual +decide (maxSteps:=1000000) only [↓ wP,wQ,tf,Nat.reduceAdd,wS,B,C,t4,q,H,a.len,bP,I.len,k1]
   rw [iS,decide_eq_false k1];rfl
def VL (ns cs:List AV) (a no:Int) (o:AV):Bool:=mG ns cs a no (o.fld 0).num (o.fld 1).num (o.fld 2).els (o.fld 3).els
def pA (ns cs:List AV) (b:Int) (os c a is:List AV) (n:Int):Bool:=
 decide ((os.length:Int)<=120)&&(decide ((a.length:Int)<=100)&&(kJ 50 is&&(inR n 0 1000000000&&(iS os c&&(os.all (VL ns cs b os.length)&&a.all AF)))))
theorem aHt {a b:AV} (k:gQ a) (l:BS b):∃ ns fs mm cs os ts us is uu,a=pg ns fs mm cs/\b=wd os ts us is uu/\RW ns fs mm cs os ts us is uu:=by
 obtain ⟨_,_,_,_,rfl,a1,a2,a3,a4⟩:=k;obtain ⟨_,_,_,_,_,rfl,c,d,e,f,h⟩:=l;exact ⟨_,_,_,_,_,_,_,_,_,rfl,rfl,a1,a2,a3,a4,c,d,e,f,h⟩
abbrev LZ:List AV->Option AV:=wK (fun a b=>gQ a/\BS b) fun a b=>.bool (pA (a.fld 0).els (a.fld 3).els (a.fld 1).els.length (b.fld 0).els (b.fld 1).els (b.fld 2).els (b.fld 3).els (b.fld 4).num)
set_option maxHeartbeats 8000000 in
theorem rWorld_ok:Abs.Ok Tryz.prog 65 LZ:=ok2 fun a b ⟨ha,hb⟩=>by
 obtain ⟨ns,fs,mm,cs,os,u,C,is,uu,rfl,rfl,h⟩:=aHt ha hb;obtain ⟨M,N,O,Q,R,T,U,V,X⟩:=h.cells;obtain ⟨m,hm⟩:=h.uu;have F:VK [is,.int .i64 50]=some (.bool (kJ 50 is.els)):=sg2_eq ⟨h.is,_,rfl⟩;have ab:LY [wd os u C is uu]=some (.bool (iS os.els u.els)):=cY h.wd;obtain ⟨G,k,af⟩:=h.os;obtain ⟨H,l,ag⟩:=h.us
 refine aF (L:=[ent 137 iC,ent 136 VK,ent 138 LY,ent 139 (aQx (pg ns fs mm cs) (wd os u C is uu) ns.els cs.els fs.els.length os.els.length)]) (elist_cons rIn6_ok.ent (elist_cons rInts_ok.ent (elist_cons rtasks_ok.ent (elist_cons (VQ h).ent aE))))
  (fun r=>(bif Nat.beq r 6 then [7] else [],[])) (by kernel_rfl) Tryz.func65 Tryz.ntmps65 Tryz.results65 rfl rfl (aA (dX _ h.pg).1.und (aA (tk_wd _ h.wd).1.und aD)) aI ?_
 subst hm;show Wk _ _ _ _ _ (jM _ _ (fun _ r=>r=.bool (pA ns.els cs.els fs.els.length os.els u.els C.els is.els m)) _);have c:pA ns.els cs.els fs.els.length os.els u.els C.els is.els m=(decide ((os.els.length:Int)<=120)&&(decide ((C.els.length:Int)<=100)&&(kJ 50 is.els&&(inR m 0 1000000000&&(iS os.els u.els&&(os.els.all (VL ns.els cs.els fs.els.length os.els.length)&&C.els.all AF)))))):=rfl;generalize pA ns.els cs.els fs.els.length os.els u.els C.els is.els m=W at *;rw [k.els,l.els]at c;have ac:=k.2;have ad:=l.2;by_cases k1:((G.length:Nat):Int) > 120
 ·rw [decide_eq_false (show ¬ ((G.length:Nat):Int)<=120 by omega),Bool.false_and]at c
  simp +contextual +decide (maxSteps:=1000000) only [↓ wP,wQ,tf,Nat.reduceAdd,wS,M,N,O,Q,R,T,U,V,X,k.len,k1,c]
 by_cases k2:((H.length:Nat):Int) > 100
 ·rw [decide_eq_false (show ¬ ((H.length:Nat):Int)<=100 by omega),Bool.false_and,Bool.and_false]at c
  simp +contextual +decide (maxSteps:=1000000) only [↓ wP,wQ,tf,Nat.reduceAdd,wS,M,N,O,Q,R,T,U,V,X,k.len,l.len,k1,k2,c]
 rw [decide_eq_true (show ((G.length:Nat):Int)<=120 by omega),Bool.true_and,decide_eq_true (show ((H.length:Nat):Int)<=100 by omega),Bool.true_and]at c
 cases k3:kJ 50 is.els with
 | false=>
   rw [k3,Bool.false_and]at c;simp +contextual +decide (maxSteps:=1000000) only [↓ wP,wQ,tf,Nat.reduceAdd,wS,M,N,O,Q,R,T,U,V,X,k.len,l.len,k1,k2,F,k3,c]
 | true=>
 rw [k3,Bool.true_and]at c
 cases k4:inR m 0 1000000000 with
 | false=>
   rw [k4,Bool.false_and]at c;simp +contextual +decide (maxSteps:=1000000) only [↓ wP,wQ,tf,Nat.reduceAdd,wS,M,N,O,Q,R,T,U,V,X,k.len,l.len,k1,k2,F,k3,aH,k4,c]
 | true=>
 rw [k4,Bool.true_and]at c
 cases k5:iS os.els u.els with
 | false=>
   rw [<-k.els,k5,Bool.false_and]at c;simp +contextual +decide (maxSteps:=1000000) only [↓ wP,wQ,tf,Nat.reduceAdd,wS,M,N,O,Q,R,T,U,V,X,k.len,l.len,k1,k2,F,k3,aH,k4,ab,k5,c]
 | true=>
 rw [<-k.els,k5,Bool.true_and,k.els]at c;simp +contextual +decide (maxSteps:=1000000) only [↓ wP,wQ,tf,Nat.reduceAdd,wS,M,N,O,Q,R,T,U,V,X,k.len,l.len,k1,k2,F,k3,aH,k4,ab,k5];refine aN (fun i e=>∃ t n low o,e=⟨75,none,65,t,[],⟨n,low,o⟩,.no⟩/\t.val 2=.ptr 0 0 0/\t.val 3=.ptr 1 0 0/\t.val 5=.int .i64 (i:Nat)/\o.get 0=some (aW 0 [ns,fs,mm,cs])/\o.get 1=some (aW 0 [os,u,C,is,.int .i64 m])/\2<=n/\i<=G.length/\W=((G.drop i).all (VL ns.els cs.els fs.els.length G.length)&&H.all AF)) (fun i=>G.length-i) 0 ⟨_,_,_,_,rfl,by simp +decide only [↓ aB],by simp +decide only [↓ aB],by simp +decide only [↓ aB];rfl,by simp +decide only [↓ aB,ne_eq],by simp +decide only [↓ aB],by omega,Nat.zero_le _,c⟩ ?_;rintro i _ ⟨t,n,low,o,rfl,t2,B,t5,Y,w,hn,hi,f⟩;have f0:=bK (show 0<n by omega);have I:=bK (show 1<n by omega)
 rcases Nat.lt_or_ge i G.length with A | J
 ·obtain ⟨y,E,hm,hg,hd,q,hw,Z⟩:=cO (fun x h=>tk_ob.len h) af ac A
  rw [hd,List.all_cons,Bool.and_assoc]at f
  have aa:=fun {d:Option AV}=>tk_ob.pf E (d:=d)
  have hv:aQx (pg ns fs mm cs) (wd os u C is (.int .i64 m)) ns.els cs.els fs.els.length os.els.length [pg ns fs mm cs,wd os u C is (.int .i64 m),y]=some (.bool (VL ns.els cs.els fs.els.length os.els.length y)):=rV ⟨rfl,rfl,E⟩;rw [<-k.els]at f
  cases hp:VL ns.els cs.els fs.els.length os.els.length y with
  | false=>
    rw [hp,Bool.false_and]at f;simp +contextual +decide (maxSteps:=1000000) only [↓ wP,wQ,tf,Nat.reduceAdd,wS,t2,B,t5,Y,w,f0,I,k.len,k.idx,q,Z,aa,hv,hp,f]
  | true=>
    rw [hp,Bool.true_and]at f;simp +contextual +decide (maxSteps:=1000000) only [↓ wP,wQ,tf,Nat.reduceAdd,wS,t2,B,t5,Y,w,f0,I,k.len,k.idx,q,Z,aa,hv,hp,hw];rw [k.els]at f;exact ⟨i+1,by show _-_<_-_;omega,_,_,_,_,rfl,by simp +decide only [↓ aB,t2],by simp +decide only [↓ aB,B],by simp +decide only [↓ aB],by simp +decide only [Y],by simp +decide only [w],by omega,A,f⟩
 ·obtain rfl:i=G.length:=Nat.le_antisymm hi J
  rw [List.drop_length,List.all_nil,Bool.true_and]at f;simp +contextual +decide (maxSteps:=1000000) only [↓ wP,wQ,tf,Nat.reduceAdd,wS,B,t5,w,I,k.len,bP];have ae:=f;clear f;refine aN (fun i e=>∃ t n low o,e=⟨75,none,65,t,[],⟨n,low,o⟩,.no⟩/\t.val 2=.ptr 0 0 0/\t.val 3=.ptr 1 0 0/\t.val 6=.int .i64 (i:Nat)/\o.get 0=some (aW 0 [ns,fs,mm,cs])/\o.get 1=some (aW 0 [os,u,C,is,.int .i64 m])/\2<=n/\i<=H.length/\W=(H.drop i).all AF) (fun i=>H.length-i) 0 ⟨_,_,_,_,rfl,by simp +decide only [↓ aB,t2],by simp +decide only [↓ aB,B],by simp +decide only [↓ aB];rfl,by simp +decide only [Y],by simp +decide only [w],by omega,Nat.zero_le _,ae⟩ ?_;rintro i _ ⟨t,n,low,o,rfl,t2,B,t6,Y,w,hn,hi,f⟩;have f0:=bK (show 0<n by omega);have I:=bK (show 1<n by omega)
  rcases Nat.lt_or_ge i H.length with A | J
  ·obtain ⟨y,E,hm,hg,hd,q,hw,Z⟩:=cO (fun x h=>tk_out.len h) ag ad A
   rw [hd,List.all_cons]at f;obtain ⟨_,_,rfl,⟨p,rfl⟩,⟨v,rfl⟩⟩:=E;have he:AF (.agg [.int .i64 p,.int .i64 v])=(inR p 0 3&&inR v (-1000000000) 1000000000):=rfl;rw [he]at f
   cases k6:inR p 0 3 with
   | false=>
     rw [k6,Bool.false_and,Bool.false_and]at f;simp +contextual +decide (maxSteps:=1000000) only [↓ wP,wQ,tf,Nat.reduceAdd,wS,B,t6,w,I,l.len,l.idx,q,Z,aH,k6,f]
   | true=>
     cases k7:inR v (-1000000000) 1000000000 with
     | false=>
       rw [k6,k7,Bool.and_false,Bool.false_and]at f;simp +contextual +decide (maxSteps:=1000000) only [↓ wP,wQ,tf,Nat.reduceAdd,wS,B,t6,w,I,l.len,l.idx,q,Z,aH,k6,k7,f]
     | true=>
       rw [k6,k7,Bool.and_true,Bool.true_and]at f;simp +contextual +decide (maxSteps:=1000000) only [↓ wP,wQ,tf,Nat.reduceAdd,wS,B,t6,w,I,l.len,l.idx,q,Z,aH,k6,k7,hw];exact ⟨i+1,by show _-_<_-_;omega,_,_,_,_,rfl,by simp +decide only [↓ aB,t2],by simp +decide only [↓ aB,B],by simp +decide only [↓ aB],by simp +decide only [Y],by simp +decide only [w],by omega,A,f⟩
  ·obtain rfl:i=H.length:=Nat.le_antisymm hi J
   rw [List.drop_length,List.all_nil]at f;simp +contextual +decide (maxSteps:=1000000) only [↓ wP,wQ,tf,Nat.reduceAdd,wS,B,t6,w,I,l.len,bP,f]
end
end Go.Proofs.YtpmccfnfikkkbaaGreat
/-
 Calls that read the store: whether something is so of all numbers of a list,by a function that reads what its maker keeps.
-/
namespace Go.Abs
noncomputable section
variable {P:Program}
theorem qH {L:List lX} (d:∀ x∈L,dU P x) (H:dT) {f:FuncId} {fn:Func} {c:Code} {N:Nat} {b:List ResultVar} {args:List AV} {v:AV} {s:Sto} (a:okFn P f=true) (l:P.funcs[f]?=some fn) (m:fn.ntmps=N) (q:fn.results=b.toArray) (k:fn.body=some c)
 (e:Nat.ble args.length N=true) (u:Und s.n v)
 (h:Wk P (bJ L) H c ⟨N,none,f,Tr.leaf.lay 0 args,[],⟨s.n,s.n,s.o⟩,.no⟩ (jM P b (fun S r=>s.n<=S.low/\r=v) fun _ _=>False)):dE P f args s (.ret v none):=by
 refine SP (xQ d) a l k u ?_;rw [lP m e,show fn.results.toList=b by rw [q]];exact h.sound
theorem aMa {n low low':Nat} {o:Tr AObj} {x:AObj}:Sim ⟨n,low,o⟩ ⟨n+1,low',o.set n x⟩:=⟨Nat.le_succ _,fun id b=>by
 have a:id<n:=b
 rw [Sto.get_mk a,Sto.get_mk (by omega),Tr.get_set_ne _ _ (by omega)]⟩
theorem MA {s:Sto} {low:Nat}:Sim s ⟨s.n,low,s.o⟩:=⟨Nat.le_refl _,fun _ _=>rfl⟩
end
end Go.Abs
namespace Go.Proofs.YtpmccfnfikkkbaaGreat
open Go.Abs Go Go.Abs.TryzF
noncomputable section
set_option maxRecDepth 10000
abbrev aMb (g:FuncId) (cap:List AV) (D:AV->Prop) (S:Sto->Prop) (p:AV->Bool):lX:=entB g (fun args s=>(∃ x,D x/\args=x::cap)/\S s) fun args=>.bool (p (args.headD .top))
theorem XV {g:FuncId} {cap:List AV} {D:AV->Prop} {S:Sto->Prop} {p:AV->Bool} (h:∀ x,D x->∀ s,S s->dE Tryz.prog g (x::cap) s (.ret (.bool (p x)) none)):dU Tryz.prog (aMb g cap D S p):=
 entB_ok fun args s ⟨⟨x,b,e⟩,a⟩=>by subst e;exact h x b s a
theorem IS {g:FuncId} {cap:List AV} {D:AV->Prop} {S:Sto->Prop} {p:AV->Bool} {L:List lX} {x:AV} {s:Sto} (b:D x) (a:S s):bJ (aMb g cap D S p::L) g (x::cap) s=some (.ret (.bool (p x)) none):=fJ ⟨⟨x,b,rfl⟩,a⟩
variable {g:FuncId} {cap:List AV} {D:AV->Prop} {S:Sto->Prop} {p:AV->Bool}
theorem aCf (M:∀ s J,Sim s J->S s->S J) (E:∀ x,D x->dO x) (h:∀ x,D x->∀ s,S s->dE Tryz.prog g (x::cap) s (.ret (.bool (p x)) none)) {a:AV} (N:TSl D a) (s:Sto) (y:S s):
 dE Tryz.prog 269 [a,.func (.func g) [] cap] s (.ret (.int .i64 (tX p a.els 0)) none):=by
 obtain ⟨xs,r,U⟩:=N;have R:=r.2;refine qH (L:=[aMb g cap D S p]) (elist_cons (XV h) aE) aG (by kernel_rfl) Tryz.func269 Tryz.ntmps269 Tryz.results269 rfl rfl aO ?_;have b:∀ {low:Nat},S ⟨s.n,low,s.o⟩:=M _ _ MA y;obtain ⟨n0,H,I⟩:=s;have b:∀ {low:Nat},S ⟨n0,low,I⟩:=b;rw [r.els];simp +contextual +decide (maxSteps:=1000000) only [↓ wP,wQ,tf,wS,r.len];refine aN (fun i e=>∃ t,e=⟨19,none,269,t,[],⟨n0,n0,I⟩,.no⟩/\t.val 0=a/\t.val 1=.func (.func g) [] cap/\t.val 7=.int .i64 (xs.length:Nat)/\t.val 8=.int .i64 (i:Nat)/\i<=xs.length/\tX p xs 0=tX p (xs.drop i) i) (fun i=>xs.length-i) 0 ⟨_,rfl,by simp +decide only [↓ aB,bN,aZ],by simp +decide only [↓ aB,bN,aZ],by simp +decide only [↓ aB],by simp +decide only [↓ aB];rfl,Nat.zero_le _,rfl⟩ ?_;rintro i _ ⟨t,rfl,A,B,v,C,Q,c⟩
 rcases Nat.lt_or_ge i xs.length with m | w
 ·obtain ⟨x,f,X,V,O,l,T,F⟩:=cO (k:=1) (fun x h=>tu_int.len (E x h)) U R m
  rw [O,tX]at c
  have q:=fun {d:Option AV}=>tu_int.pf (E x f) (d:=d)
  have G:=fun {low:Nat}=>IS (g:=g) (cap:=cap) (p:=p) (L:=[]) f (b (low:=low))
  cases u:p x with
  | true=>
    rw [u,if_pos rfl]at c;simp +contextual +decide (maxSteps:=1000000) only [↓ wP,wQ,tf,wS,A,B,v,C,r.idx,l,F,q,G,u,c,Nat.le_refl]
  | false=>
    rw [u,if_neg (by decide)]at c;simp +contextual +decide (maxSteps:=1000000) only [↓ wP,wQ,tf,wS,A,B,v,C,r.idx,l,F,q,G,u,T];exact ⟨i+1,by show _-_<_-_;omega,_,rfl,by simp +decide only [↓ aB,A],by simp +decide only [↓ aB,B],by simp +decide only [↓ aB,v],by simp +decide only [↓ aB],m,c⟩
 ·obtain rfl:i=xs.length:=Nat.le_antisymm Q w
  rw [List.drop_length,tX]at c;simp +contextual +decide (maxSteps:=1000000) only [↓ wP,wQ,wS,v,C,bP,c,Nat.le_refl]
theorem MB (d:∀ s l,Sim s l->S s->S l) (m:∀ x,D x->dO x) (h:∀ x,D x->∀ s,S s->dE Tryz.prog g (x::cap) s (.ret (.bool (p x)) none)) {a:AV} (q:TSl D a) (s:Sto) (c:S s):
 dE Tryz.prog 208 [a,.func (.func g) [] cap] s (.ret (.bool (a.els.any p)) none):=by
 refine qH (L:=[entB 269 (fun args s=>args=[a,.func (.func g) [] cap]/\S s) fun _=>.int .i64 (tX p a.els 0)]) (elist_cons (entB_ok fun args s ⟨e,u⟩=>by subst e;exact aCf d m h q s u) aE) aG (by kernel_rfl) Tryz.func208 Tryz.ntmps208 Tryz.results208 rfl rfl aI ?_;have b:∀ {low:Nat},S ⟨s.n,low,s.o⟩:=d _ _ MA c;obtain ⟨n0,k,v⟩:=s
 have r:=fun {low:Nat}=>fJ (f:=269) (D:=fun args s=>args=[a,.func (.func g) [] cap]/\S s) (g:=fun _=>.int .i64 (tX p a.els 0)) (L:=[]) ⟨rfl,b (low:=low)⟩
 simp +contextual +decide (maxSteps:=1000000) only [↓ wP,wQ,wS,r,Nat.le_refl];rw [GJ]
theorem aMc (u:∀ x,D x->dO x) (h:∀ x,D x->∀ s,S s->dE Tryz.prog g (x::cap) s (.ret (.bool (p x)) none)) (m:∀ s k,Sim s k->S s->S k) (c:Nat) (x:AV) (r:D x) (s:Sto) (e:S s) (d:s.get c=some (aW 0 [.func (.func g) [] cap])):
 dE Tryz.prog 345 (x::[.ptr c 0 0]) s (.ret (.bool (!p x)) none):=by
 refine qH (L:=[aMb g cap D S p]) (elist_cons (XV h) aE) aG (by kernel_rfl) Tryz.func345 Tryz.ntmps345 Tryz.results345 rfl rfl aI ?_;have b:∀ {low:Nat},S ⟨s.n,low,s.o⟩:=m _ _ MA e;obtain ⟨n0,f,v⟩:=s;have a:c<n0:=Sto.get_lt d;rw [Sto.get_mk a]at d;have l:=bK a
 have q:=fun {low:Nat}=>IS (g:=g) (cap:=cap) (p:=p) (L:=[]) r (b (low:=low))
 simp +contextual +decide (maxSteps:=1000000) only [↓ wP,wQ,tf,wS,q,d,l,Nat.le_refl]
theorem aMd (k:∀ s y,Sim s y->S s->S y) (r:∀ x,D x->dO x) (h:∀ x,D x->∀ s,S s->dE Tryz.prog g (x::cap) s (.ret (.bool (p x)) none)) {a:AV} (v:TSl D a) (s:Sto) (q:S s):
 dE Tryz.prog 297 [a,.func (.func g) [] cap] s (.ret (.bool (a.els.all p)) none):=by
 have l:∀ u d,Sim u d->(S u/\u.get s.n=some (aW 0 [.func (.func g) [] cap]))->(S d/\d.get s.n=some (aW 0 [.func (.func g) [] cap])):=fun u d b ⟨A,B⟩=>⟨k u d b A,b.get B⟩
 have C:=fun u (b:S u/\u.get s.n=some (aW 0 [.func (.func g) [] cap]))=>MB (g:=345) (cap:=[.ptr s.n 0 0]) (D:=D) (p:=fun x=>!p x) l r (fun x G u b=>aMc r h k s.n x G u b.1 b.2) v u b
 have m:∀ {low low':Nat},S ⟨s.n+1,low',s.o.set s.n (aW 0 [.func (.func g) [] cap])⟩:=fun {low low'}=>k ⟨s.n,low,s.o⟩ _ aMa (k _ _ MA q)
 have c:=v;obtain ⟨xs,F,_⟩:=c;obtain ⟨n0,w,H⟩:=s;refine qH (L:=[entB 208 (fun args u=>args=[a,.func (.func 345) [] [.ptr n0 0 0]]/\(S u/\u.get n0=some (aW 0 [.func (.func g) [] cap]))) fun _=>.bool (a.els.any fun x=>!p x)]) (elist_cons (entB_ok fun args u ⟨e,b⟩=>by subst e;exact C u b) aE) aG (by kernel_rfl) Tryz.func297 Tryz.ntmps297 Tryz.results297 rfl rfl aI ?_
 have E:=fun {low:Nat}=>fJ (f:=208) (D:=fun args u=>args=[a,.func (.func 345) [] [.ptr n0 0 0]]/\(S u/\u.get n0=some (aW 0 [.func (.func g) [] cap]))) (g:=fun _=>.bool (a.els.any fun x=>!p x)) (L:=[]) (s:=⟨n0+1,low,H.set n0 (aW 0 [.func (.func g) [] cap])⟩) ⟨rfl,m (low:=0),by rw [Sto.get_mk (by omega),Tr.get_set_same]⟩
 simp +contextual +decide (maxSteps:=1000000) only [↓ wP,wQ,wS,E,Nat.le_refl];rw [<-List.not_all_eq_any_not,Bool.not_not]
def Acc1 (u:Sto) (c:Nat) (k:Nat) (l:List AV):Prop:=∃ v,u.get c=some (aW 0 [v])/\(l=[]/\v=.nils∨l≠[]/\∃ id g,v=.sl id g 0 l.length (.room 1)/\u.get id=some (aW g l)/\k<id)
theorem Acc1.sim {l':Nat} {u b:Sto} {c k:Nat} {l:List AV} (h:SimX l' u b) (q:c≠l') (r:l'<=k) (o:Acc1 u c k l):Acc1 b c k l:=by
 obtain ⟨v,e,a⟩:=o;refine ⟨v,h.get e q,?_⟩
 rcases a with a | ⟨d,id,g,rfl,f,m⟩
 ·exact .inl a
 ·exact .inr ⟨d,id,g,rfl,h.get f (by omega),m⟩
theorem Acc1.new {u:Sto} {c k id g m:Nat} {l:List AV} (a:u.get c=some (aW 0 [.sl id g 0 m (.room 1)])) (b:u.get id=some (aW g l)) (f:m=l.length) (e:l≠[]) (d:k<id):Acc1 u c k l:=
 ⟨_,a,.inr ⟨e,id,g,by rw [f],b,d⟩⟩
theorem Acc1.nil {u:Sto} {c k:Nat} (a:u.get c=some (aW 0 [.nils])):Acc1 u c k []:=⟨_,a,.inl ⟨rfl,rfl⟩⟩
def gF (n:Nat):List AV:=(List.range n).map fun i=>.int .i64 (i:Nat)
def qI (n:Nat):AV:=if n=0 then .nils else .fz (gF n) false
theorem AE (n:Nat):(gF n).length=n:=by simp [gF]
theorem GC (n:Nat):gF (n+1)=gF n++[.int .i64 (n:Nat)]:=by simp [gF,List.range_succ]
theorem vB (n:Nat):∀ x∈gF n,dO x:=fun x a=>by obtain ⟨i,_,rfl⟩:=List.mem_map.1 a;exact ⟨_,rfl⟩
theorem GD {n:Nat} (h:n<=9223372036854775807):Sl (qI n) (gF n):=by
 unfold qI;split
 ·rename_i a;subst a;exact ⟨.inl ⟨rfl,rfl⟩,Nat.zero_le _⟩
 ·exact ⟨.inr ⟨false,rfl⟩,by rw [AE];exact h⟩
def yT (n:Nat):List (List AV):=(List.range n).map fun i=>[.int .i64 (i:Nat)]
abbrev BD (n:Nat):AV:=.func (.func 346) [] [.pf (.int .i64 (n:Nat))]
theorem IT (n:Nat):UnderE 0 (BD n):=jE (by intro x a;cases a) (by intro x a;simp at a;subst a;exact ⟨2,rfl⟩)
theorem VN (n:Nat):Abs.Returns Tryz.prog 298 [.int .i64 (n:Nat)] (BD n):=by
 refine dZ (L:=[]) aE aG (by kernel_rfl) Tryz.func298 Tryz.ntmps298 Tryz.results298 rfl rfl (aA aO aD) ?_;simp +contextual +decide (maxSteps:=1000000) only [↓ wP,wQ,Nat.reduceAdd,wS];exact rU (cs:=[.int .i64 (n:Nat)]) rfl rfl (aA aO aD)
set_option maxHeartbeats 1000000 in
theorem MC (m:Nat) (Z:m<9223372036854775807) {O:Orc} (I:∀ a σ,O 346 a σ=none):aOt Tryz.prog O (BD m) (yT m):=by
 intro l J D X σ C r L M q V
 have B:(yT m).length=m:=by simp [yT]
 refine pT (I _ _) (by kernel_rfl) Tryz.func346 rfl (Wk.sound (H:=aG) ?_);rw [B];show Wk _ _ _ _ ⟨13,none,346,Tr.leaf.lay 0 [.func (.yield l) [] [],.pf (.int .i64 (m:Nat))],[],⟨σ.n,σ.n,σ.o⟩,.no⟩ _;simp +contextual +decide (maxSteps:=1000000) only [↓ wP,wQ,tf]
 refine aN (fun i e=>∃ t u,e=⟨13,none,346,t,[],u,.no⟩/\t.val 0=.func (.yield l) [] []/\t.val 4=.int .i64 (m:Nat)/\t.val 5=.int .i64 (i:Nat)/\i<=m/\l<u.n/\J i u/\(i=0∨u.low<=l)) (fun i=>m-i) 0
  ⟨_,_,rfl,by simp +decide only [↓ aB,bN,aZ],by simp +decide only [↓ aB],by simp +decide only [↓ aB];rfl,Nat.zero_le _,C,r _ _ _ (Sim.low σ σ.n) q,.inl rfl⟩ ?_
 rintro i _ ⟨t,⟨n,low,o⟩,rfl,Q,F,G,Y,N,R,y⟩;by_cases A:i<m
 ·have E:(((i:Nat):Int)<((m:Nat):Int))=True:=eq_true (by omega)
  have U:IntKind.i64.wrap ((i:Int)+1)=((i+1:Nat):Int):=by rw [IntWalk.i64_in _ (by omega)];rfl
  simp +contextual +decide (maxSteps:=1000000) only [↓ wP,wQ,wS,Q,F,G,E];have c:=V i [.int .i64 (i:Nat)] (by simp [yT,A]) ⟨n,low,o⟩ N R
  refine c.mono fun res T=>?_
  have f:rK l J D X i ⟨n,low,o⟩ res:=T;clear T c
  cases res with
  | pan v d=>
    rw [DP];have k:(d.getD ⟨n,low,o⟩).low<=l/\X v (d.getD ⟨n,low,o⟩):=f;generalize d.getD ⟨n,low,o⟩=u at *;simp +contextual +decide (maxSteps:=1000000) only [↓ wP,wQ];exact aDv rfl (nL _ _ _ (X v) (M v) k.2 (.inl (Nat.lt_of_le_of_lt k.1 C)))
  | ret v d=>
    rw [aJ]
    have k:(v=.bool true/\(d.getD ⟨n,low,o⟩).low<=l/\l<(d.getD ⟨n,low,o⟩).n/\J (i+1) (d.getD ⟨n,low,o⟩))∨(v=.bool false/\(d.getD ⟨n,low,o⟩).low<=l/\D (d.getD ⟨n,low,o⟩)):=by
     cases v with
     | bool b=>cases b with
       | true=>exact .inl ⟨rfl,f⟩
       | false=>exact .inr ⟨rfl,f⟩
     | _=>exact f.elim
    generalize d.getD ⟨n,low,o⟩=u at *
    rcases k with ⟨rfl,k1,k0,k2⟩ | ⟨rfl,k1,k2⟩
    ·simp +contextual +decide (maxSteps:=1000000) only [↓ wP,wQ,wS,G,U]
     exact ⟨i+1,by show _-_<_-_;omega,_,_,rfl,by simp +decide only [↓ aB,Q],by simp +decide only [↓ aB,F],by simp +decide only [↓ aB],A,k0,k2,.inr k1⟩
    ·simp +contextual +decide (maxSteps:=1000000) only [↓ wP,wQ]
     exact pF rfl (vs:=[]) rfl (.inr (nL _ _ _ D L k2 (.inl (Nat.lt_of_le_of_lt k1 C))))
 ·have E:(((i:Nat):Int)<((m:Nat):Int))=False:=eq_false (by omega)
  simp +contextual +decide (maxSteps:=1000000) only [↓ wP,wQ,wS,F,G,E]
  have w:i=m:=by omega
  refine pF rfl (vs:=[]) rfl (.inl (nL _ _ _ (J m) (r _) (w ▸ R) ?_))
  rcases y with h | h
  ·refine .inr ?_
   rw [<-w,h];exact q
  ·exact .inl (Nat.lt_of_le_of_lt h C)
set_option maxHeartbeats 4000000 in
theorem MD (m:Nat) (T:m<=1000):Abs.Returns Tryz.prog 181 [.nils,BD m] (qI m):=by
 refine SD (L:=[]) aE aG (by kernel_rfl) Tryz.func181 Tryz.ntmps181 Tryz.results181 rfl rfl (aA dH (aA (IT m).und aD)) ?_
 have C:(yT m).length=m:=by simp [yT]
 simp +contextual +decide (maxSteps:=1000000) only [↓ wP,wQ,Nat.reduceAdd,ne_eq];refine JG (xs:=yT m) (fun i u=>Acc1 u 0 2 (gF i)) (fun _ _=>False) (fun _ _=>False) ?_ (fun i u U h Q=>Acc1.sim h (by decide) (by decide) Q) (fun _ _ _ _ h=>h) (fun _ _ _ _ h=>h) (fun _ _ h=>h.elim) ⟨.nils,rfl,.inl ⟨rfl,rfl⟩⟩ ?_ ?_ (fun _ _ _ h=>h.elim) (fun _ _ _ _ h=>h.elim) (fun _ _ h=>h.elim)
 ·simp +decide only [↓ aB]
  exact MC m (by omega) fun a u=>rfl
 ·rintro i x k ⟨n,low,o⟩ G d r ⟨v,B,c⟩
  have R:i<m:=by
   have:=(List.getElem?_eq_some_iff.1 k).1
   simpa [yT] using this
  have I:x=[.int .i64 (i:Nat)]:=by
   simp [yT,R]at k;exact k.symm
  subst I;have H:2<n:=G;have e:=bK (i:=0) (n:=n) (by omega);have w:=bK (i:=1) (n:=n) (by omega);have E:=bK (i:=2) (n:=n) (by omega);simp +decide only [Sto.get_mk,e,w,E,Nat.reduceAdd]at d r B
  have f:(2*((gF i).length+1)+1024)*8<=281474976710656/\(gF i).length+1<4611686018427387904:=by rw [AE];omega
  refine ⟨_,rfl,?_⟩
  rcases c with ⟨A,rfl⟩ | ⟨A,id,g,rfl,b,N⟩
  ·simp +contextual +decide (maxSteps:=1000000) only [↓ wP,wQ,BK,tf,Nat.reduceAdd,Nat.reduceMul,e,w,E,dC,d,r,B,pD,pC,Env.setS,ne_eq]
   rw [GC,A];refine Acc1.new (id:=n+1) (g:=0) (m:=1) ?_ ?_ rfl (by simp) (by omega)
   ·exact by simp +decide only [↓ aB,dD,e]
   ·exact by simp +decide only [↓ aB,dD,aZ,ne_eq,e,dC]
  ·have q:id<n:=Sto.get_lt b
   rw [Sto.get_mk q]at b;have J:=bK q
   have M:id≠2/\2≠id/\id≠0/\0≠id/\id≠1/\1≠id:=⟨by omega,by omega,by omega,by omega,by omega,by omega⟩
   simp +contextual +decide (maxSteps:=1000000) only [↓ wP,wQ,BK,tf,Nat.reduceAdd,Nat.mul_one,Nat.zero_add,e,w,E,J,M,dC,d,r,B,b,f,pD,pC,Env.setS,ne_eq];rw [GC];refine Acc1.new (id:=id) (g:=g+1) (m:=(gF i).length+1) ?_ ?_ (by simp) (by simp) N
   ·exact by simp +decide only [↓ aB,dD,e]
   ·exact by simp +decide only [↓ aB,dD,aZ,ne_eq,J,M]
 ·rintro ⟨n,low,o⟩ G d ⟨v,B,c⟩
  have H:2<n:=G;have e:=bK (i:=0) (n:=n) (by omega);have w:=bK (i:=1) (n:=n) (by omega);have E:=bK (i:=2) (n:=n) (by omega);rw [C]at c;simp +decide only [Sto.get_mk,e,w]at d B;simp +contextual +decide (maxSteps:=1000000) only [↓ wP,wQ,BK,tf,e,w,dC,d,B,ne_eq]
  rcases c with ⟨A,rfl⟩ | ⟨A,id,g,rfl,b,N⟩
  ·have F:m=0:=by rw [<-AE m,A];rfl
   rw [qI,if_pos F];exact .und _ dH
  ·have F:m≠0:=fun h=>A (by subst h;rfl)
   rw [qI,if_neg F];have l:=Sto.get_lt b;rw [Sto.get_mk l]at b
   refine zJ (g:=g) (cs:=gF m) (Nat.zero_le _) ?_ rfl (by simp) (fun x k=>(tu_int x (vB m x k)).2) fun j x y k O=>?_
   ·rw [Sto.get_mk l,Tr.get_set_ne _ _ (by omega)];exact b
   ·rw [Nat.zero_add]at k
    rw [k]at O;cases O;exact .und _ (tu_int x (vB m x (List.mem_of_getElem? k))).1.und
theorem VO (m:Nat) (a:m<=1000):Abs.Returns Tryz.prog 103 [BD m] (qI m):=by
 refine aF (L:=[BM 181 [.nils,BD m] (qI m)]) (elist_cons (lF (MD m a)) aE) aG (by kernel_rfl) Tryz.func103 Tryz.ntmps103 Tryz.results103 rfl rfl (aA (IT m).und aD) (lZ (GD (by omega)) fun x b=>(tu_int x (vB m x b)).1).und ?_;simp +contextual +decide (maxSteps:=1000000) only [↓ wP,wQ,wS,kV]
end
end Go.Proofs.YtpmccfnfikkkbaaGreat
