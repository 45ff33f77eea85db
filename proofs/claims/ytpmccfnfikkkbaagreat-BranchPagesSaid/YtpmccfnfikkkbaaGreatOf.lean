/-
  The reference of programs: programs as they are defined.
-/
import Derived.Test.YtpmccfnfikkkbaaGreatOe
set_option linter.unusedVariables false
set_option linter.unusedSimpArgs false
namespace Go.Proofs.YtpmccfnfikkkbaaGreat
open Go.Abs Go Go.Abs.TryzF
noncomputable section
set_option maxRecDepth 10000
def mE (n:Nat) (L:List Int):List AV:=(List.range n).map fun i:Nat=>.bool (decide (((i:Nat):Int)∈L))
theorem yO {n:Nat} {L:List Int}:(mE n L).length=n:=by simp [mE]
theorem LI {n:Nat} {L:List Int} {f:Int} (b:0<=f) (c:f<n):(mE n L)[f.toNat]?=some (.bool (decide (f∈L))):=by
 have:f.toNat<n:=by omega
 have a:((f.toNat:Nat):Int)=f:=by omega
 simp [mE,this,a]
theorem PZ {n:Nat} {L:List Int} {f:Int} (h:0<=f) (k:f<n):(mE n L).set f.toNat (.bool true)=mE n (L++[f]):=by
 apply List.ext_getElem?;intro i;rw [List.getElem?_set];simp only [mE,List.length_map,List.length_range,List.getElem?_map];by_cases c:f.toNat=i
 ·subst c
  have d:f.toNat<n:=by omega
  have e:((f.toNat:Nat):Int)=f:=by omega
  simp [d,e]
 ·rw [if_neg c]
  by_cases a:i<n
  ·have b:¬ (i:Int)=f:=by omega
   simp [a,b]
  ·simp [a]
theorem QA {n:Nat}:eG [.bool false] n=mE n []:=by
 have h:∀ m,mE m []=List.replicate m (.bool false):=fun m=>by
  simp only [mE,List.not_mem_nil,decide_false]
  exact List.ext_getElem (by simp) fun i b c=>by simp
 induction n with
 | zero=>rfl
 | succ n a=>
   rw [eG,a,h,h,List.replicate_succ];rfl
theorem aBt {n:Nat} {L:List Int}:∀ x∈mE n L,aIt x:=fun x a=>by obtain ⟨i,_,rfl⟩:=List.mem_map.1 a;exact ⟨_,rfl⟩
theorem aLp:msK Tryz.prog 239=some (1,1,[.bool false]):=by kernel_rfl
theorem QB {O:Orc} {lo c:Operand} {e:Env} {K:ORes->Prop} {n:Nat} (q:n<=1000) (l:e.eval lo=.int .i64 (n:Nat)) (k:e.eval c=.int .i64 (n:Nat)):
 eI Tryz.prog O (.makeSlice 239 lo c) e K↔K (.val' (.sl e.s.n 0 0 n (.is n)) (e.s.push (aW 0 (mE n [])))):=by
 have h:=pE (O:=O) (e:=e) (K:=fun r=>r=.val' (.sl e.s.n 0 0 n (.is n)) (e.s.push (aW 0 (mE n [])))) aLp l k (Nat.le_refl n) (by omega) (by omega) (by rw [QA];exact List.all_eq_true.2 fun x o=>(XZ x (aBt x o)).2) (by rw [QA];rfl);obtain ⟨m,r,d,f⟩:=h;constructor
 ·rintro ⟨p,u,a,b⟩
  have:eX Tryz.prog (aP Tryz.prog O p) (.makeSlice 239 lo c) e=eX Tryz.prog (aP Tryz.prog O m) (.makeSlice 239 lo c) e:=rfl;rw [this,d]at a;cases a;rw [f]at b;exact b
 ·intro h;exact ⟨m,r,d,by rw [f];exact h⟩
def yP (N:Nat) (lo:Int):List Int->List Int->Bool
 | _,[]=>true
 | L,k::l=>(inR k lo ((N:Int)-1) && !decide (k∈L))&&yP N lo (L++[k]) l
def isT:AV->Bool
 | .bool b=>b
 | _=>false
def mF (N:Nat) (a:Int) (cs:List AV):List Int->Nat->List AV->Bool
 | L,_,[]=>(mE N L).all isT
 | L,i,x::l=>tN a cs x&&(yP N ((i:Int)+1) L (bU x)&&mF N a cs (L++bU x) (i+1) l)
def oA (ns fs:List AV) (mm:Int) (cs:List AV):Bool:=
 decide ((ns.length:Int)<=300)&&(inR fs.length 1 ns.length&&(inR mm 0 ((fs.length:Int)-1)&&(tO cs&&(yP ns.length 0 [] (fs.map AV.num)&&mF ns.length fs.length cs (fs.map AV.num) 0 ns))))
abbrev UR:List AV->Option AV:=wK (fun a b=>gQ a/\eY b) fun a b=>.bool (tN (a.fld 1).els.length (a.fld 3).els b)
theorem rnodeV_ok:Abs.Ok Tryz.prog 135 UR:=ok2 fun a b ⟨⟨ns,fs,mm,cs,e,c,d,f,h⟩,k⟩=>by
 subst e;exact aHb ⟨c,d,f,h⟩ b k
section
variable {ns fs mm cs:AV}
set_option maxHeartbeats 16000000 in
theorem US (h:PG ns fs mm cs) (al:cs.els.length<=1000):Abs.Returns Tryz.prog 64 [pg ns fs mm cs] (.bool (oA ns.els fs.els mm.num cs.els)):=by
 obtain ⟨c1,c2,c3,c4⟩:=h.cells;have az:=h;have m1:UX [cs]=some (.bool (tO cs.els)):=cY ⟨h.cs,al⟩
 have m2:∀ {x:AV},eY x->UR [pg ns fs mm cs,x]=some (.bool (tN fs.els.length cs.els x)):=fun hx=>sg2_eq ⟨⟨_,_,_,_,rfl,h.ns,h.fs,h.mm,h.cs⟩,hx⟩
 obtain ⟨M,hM⟩:=h.mm;refine aF (L:=[ent 133 iC,ent 134 UX,ent 135 UR]) (elist_cons rIn5_ok.ent (elist_cons rcons_ok.ent (elist_cons rnodeV_ok.ent aE))) (fun r=>(bif Nat.beq r 14 then [6] else [],[])) (by kernel_rfl) Tryz.func64 Tryz.ntmps64 Tryz.results64 rfl rfl (aA h.und.und aD) aI ?_;subst hM;have p:oA ns.els fs.els (AV.int .i64 M).num cs.els=(decide ((ns.els.length:Int)<=300)&&(inR fs.els.length 1 ns.els.length&&(inR M 0 ((fs.els.length:Int)-1)&&(tO cs.els&&(yP ns.els.length 0 [] (fs.els.map AV.num)&&mF ns.els.length fs.els.length cs.els (fs.els.map AV.num) 0 ns.els))))):=rfl;generalize oA ns.els fs.els (AV.int .i64 M).num cs.els=W at *;obtain ⟨a,m,au⟩:=h.ns;obtain ⟨u,l,an⟩:=h.fs;obtain ⟨xc,ak,ax⟩:=h.cs;have en:=m.els;have ef:=l.els;have ec:=ak.els;have w1:=bV l.2;have w2:=bV m.2;rw [en,ef,ec]at p;rw [ec]at m1;rw [ef,ec]at m2;by_cases k1:((a.length:Nat):Int) > 300
 ·rw [decide_eq_false (show ¬ ((a.length:Nat):Int)<=300 by omega),Bool.false_and]at p
  simp +contextual +decide (maxSteps:=1000000) only [↓ wP,wQ,tf,Nat.reduceAdd,wS,c1,c2,c3,c4,m.len,k1,p]
 rw [decide_eq_true (show ((a.length:Nat):Int)<=300 by omega),Bool.true_and]at p
 cases k2:inR (u.length:Nat) 1 (a.length:Nat) with
 | false=>
   rw [k2,Bool.false_and]at p;simp +contextual +decide (maxSteps:=1000000) only [↓ wP,wQ,tf,Nat.reduceAdd,wS,c1,c2,c3,c4,m.len,l.len,k1,aH,k2,p]
 | true=>
 rw [k2,Bool.true_and]at p
 cases k5:inR M 0 ((u.length:Int)-1) with
 | false=>
   rw [k5,Bool.false_and]at p;simp +contextual +decide (maxSteps:=1000000) only [↓ wP,wQ,tf,Nat.reduceAdd,wS,c1,c2,c3,c4,m.len,l.len,k1,k2,w1,aH,k5,p]
 | true=>
 rw [k5,Bool.true_and]at p
 cases k6:tO xc with
 | false=>
   rw [k6,Bool.false_and]at p;simp +contextual +decide (maxSteps:=1000000) only [↓ wP,wQ,tf,Nat.reduceAdd,wS,c1,c2,c3,c4,m.len,l.len,k1,k2,w1,aH,k5,m1,k6,p]
 | true=>
 rw [k6,Bool.true_and]at p;simp +contextual +decide (maxSteps:=1000000) only [↓ wP,wQ,tf,Nat.reduceAdd,wS,c1,c2,c3,c4,m.len,l.len,k1,k2,w1,aH,k5,m1,k6,QB (n:=a.length) (by omega),dC]
 have hN:a.length<=300:=by omega
 refine aN (fun i e=>∃ t n low o,e=⟨133,none,64,t,[],⟨n,low,o⟩,.no⟩/\t.val 1=.ptr 0 0 0/\t.val 3=.int .i64 (a.length:Nat)/\t.val 4=.sl 1 0 0 a.length (.is a.length)/\t.val 5=.int .i64 (i:Nat)/\o.get 0=some (aW 0 [ns,fs,.int .i64 M,cs])/\1<=n/\i<=u.length/\(2<=n/\o.get 1=some (aW 0 (mE a.length ((u.take i).map AV.num))))/\W=(yP a.length 0 ((u.take i).map AV.num) ((u.drop i).map AV.num)&&mF a.length u.length xc (u.map AV.num) 0 a)) (fun i=>u.length-i) 0 ⟨_,_,_,_,rfl,by simp +decide only [↓ aB],by simp +decide only [↓ aB],by simp +decide only [↓ aB],by simp +decide only [↓ aB];rfl,by simp +decide only [↓ aB,ne_eq],by omega,Nat.zero_le _,⟨⟨by omega,by rw [show (u.take 0).map AV.num=[] from rfl];exact by simp +decide only [↓ aB]⟩,p⟩⟩ ?_;rintro i _ ⟨t,n,low,o,rfl,E,v,I,t5,D,hn,hi,b⟩;have N:=bK (show 0<n by omega)
 rcases Nat.lt_or_ge i u.length with F | S
 ·obtain ⟨⟨q,A⟩,b⟩:=b
  have R:=bK (show 1<n by omega);obtain ⟨y,O,hm,hg,hd,w,hw,hc⟩:=cO (fun x h=>tu_int.len h) an l.2 F
  have P:=fun {d:Option AV}=>tu_int.pf O (d:=d)
  have Q:=mV hg;obtain ⟨z,rfl⟩:=O;rw [show (AV.int .i64 z).num=z from rfl]at Q;rw [hd,List.map_cons,yP,show (AV.int .i64 z).num=z from rfl]at b;generalize (u.take i).map AV.num=C at *
  cases k9:inR z 0 ((a.length:Int)-1) with
  | false=>
    rw [k9,Bool.false_and,Bool.false_and,Bool.false_and]at b;simp +contextual +decide (maxSteps:=1000000) only [↓ wP,wQ,tf,Nat.reduceAdd,wS,E,v,t5,D,N,l.len,l.idx,w,hc,P,w2,aH,k9,b]
  | true=>
    rw [k9,Bool.true_and]at b
    have hb:0<=z/\z<=(a.length:Int)-1:=by simpa [inR] using k9
    have G:(0<=z)=True:=eq_true hb.1;have H:(z<((a.length:Nat):Int))=True:=eq_true (by omega);have Y:(z.toNat<a.length)=True:=eq_true (by omega);have c:=LI (n:=a.length) (L:=C) hb.1 (show z<(a.length:Int) by omega);have V:=PZ (n:=a.length) (L:=C) hb.1 (show z<(a.length:Int) by omega);by_cases YA:z∈C
    ·rw [decide_eq_true YA,Bool.not_true,Bool.false_and,Bool.false_and]at b
     rw [decide_eq_true YA]at c;simp +contextual +decide (maxSteps:=1000000) only [↓ wP,wQ,tf,wS,E,v,I,t5,D,A,N,R,l.len,l.idx,w,hc,P,w2,aH,k9,G,H,c,Nat.zero_add,Nat.mul_one,b]
    ·rw [decide_eq_false YA,Bool.not_false,Bool.true_and]at b
     rw [decide_eq_false YA]at c;simp +contextual +decide (maxSteps:=1000000) only [↓ wP,wQ,tf,wS,E,v,I,t5,D,A,N,R,l.len,l.idx,w,hc,P,w2,aH,k9,G,H,Y,yO,c,V,hw,Nat.zero_add,Nat.mul_one];exact ⟨i+1,by show _-_<_-_;omega,_,_,_,_,rfl,by simp +decide only [↓ aB,E],by simp +decide only [↓ aB,v],by simp +decide only [↓ aB,I],by simp +decide only [↓ aB],by simp +decide only [↓ aB,ne_eq,D],by omega,F,⟨⟨q,by rw [Q];exact by simp +decide only [↓ aB]⟩,by rw [Q];exact b⟩⟩
 ·obtain rfl:i=u.length:=Nat.le_antisymm hi S
  obtain ⟨⟨q,A⟩,b⟩:=b;have R:=bK (show 1<n by omega);rw [List.take_length]at A;rw [List.drop_length,List.map_nil,yP,Bool.true_and]at b;simp +contextual +decide (maxSteps:=1000000) only [↓ wP,wQ,tf,Nat.reduceAdd,wS,E,t5,D,N,l.len,bP];have ad:=b;have ac:=q;clear b q;refine aN (fun i e=>∃ t n low o,e=⟨133,none,64,t,[],⟨n,low,o⟩,.no⟩/\t.val 1=.ptr 0 0 0/\t.val 3=.int .i64 (a.length:Nat)/\t.val 4=.sl 1 0 0 a.length (.is a.length)/\t.val 6=.int .i64 (i:Nat)/\o.get 0=some (aW 0 [ns,fs,.int .i64 M,cs])/\1<=n/\i<=a.length/\(2<=n/\o.get 1=some (aW 0 (mE a.length (u.map AV.num++(a.take i).flatMap bU))))/\W=mF a.length u.length xc (u.map AV.num++(a.take i).flatMap bU) i (a.drop i)) (fun i=>a.length-i) 0 ⟨_,_,_,_,rfl,by simp +decide only [↓ aB,E],by simp +decide only [↓ aB,v],by simp +decide only [↓ aB,I],by simp +decide only [↓ aB];rfl,by simp +decide only [D],by omega,Nat.zero_le _,⟨⟨ac,by rw [show (a.take 0).flatMap bU=[] from rfl,List.append_nil];exact by simp +decide only [A]⟩,by rw [show (a.take 0).flatMap bU=[] from rfl,List.append_nil];exact ad⟩⟩ ?_;rintro i _ ⟨t,n,low,o,rfl,E,v,I,X,D,hn,hi,b⟩;have N:=bK (show 0<n by omega)
  rcases Nat.lt_or_ge i a.length with F | S
  ·obtain ⟨⟨q,A⟩,b⟩:=b
   have R:=bK (show 1<n by omega);obtain ⟨y,O,hm,hg,hd,w,hw,hc⟩:=cO (fun x h=>tk_node.len h) au m.2 F
   have P:=fun {d:Option AV}=>tk_node.pf O (d:=d)
   have ae:(a.take (i+1)).flatMap bU=(a.take i).flatMap bU++bU y:=by rw [List.take_add_one,hg,List.flatMap_append];simp
   have m3:=m2 O;rw [hd,mF,List.append_assoc,<-ae]at b;obtain ⟨_,_,ki,pa,rfl,⟨op,rfl⟩,⟨nn,rfl⟩,aj,av⟩:=O;have ck:=(aV _ aj).2;have cp:=(fY _ av).2;obtain ⟨J,B,ar⟩:=aj
   have aq:bU (.agg [.int .i64 op,.int .i64 nn,ki,pa])=J.map AV.num:=by
    rw [bU,show ((AV.agg [.int .i64 op,.int .i64 nn,ki,pa]).fld 2).els=J from B.els]
   rw [aq]at b ae;have af:IntKind.i64.wrap (((i:Nat):Int)+1)=((i:Nat):Int)+1:=IntWalk.i64_in _ (by omega)
   cases k9:tN u.length xc (.agg [.int .i64 op,.int .i64 nn,ki,pa]) with
   | false=>
     rw [k9,Bool.false_and]at b;simp +contextual +decide (maxSteps:=1000000) only [↓ wP,wQ,tf,Nat.reduceAdd,wS,E,v,X,D,N,m.idx,w,hc,P,m3,k9,b]
   | true=>
   rw [k9,Bool.true_and]at b;simp +contextual +decide (maxSteps:=1000000) only [↓ wP,wQ,tf,Nat.reduceAdd,wS,E,v,X,D,N,m.idx,w,hc,P,m3,k9]
   refine aN (fun j e=>∃ t k low o,e=⟨133,none,64,t,[],⟨k,low,o⟩,.no⟩/\t.val 1=.ptr 0 0 0/\t.val 3=.int .i64 (a.length:Nat)/\t.val 4=.sl 1 0 0 a.length (.is a.length)/\t.val 6=.int .i64 (i:Nat)/\t.val 7=.int .i64 (j:Nat)/\o.get 0=some (aW 0 [ns,fs,.int .i64 M,cs])/\2<=k/\j<=J.length/\o.get 1=some (aW 0 (mE a.length (u.map AV.num++(a.take i).flatMap bU++(J.take j).map AV.num)))/\
    W=(yP a.length ((i:Int)+1) (u.map AV.num++(a.take i).flatMap bU++(J.take j).map AV.num) ((J.drop j).map AV.num)&&mF a.length u.length xc (u.map AV.num++(a.take (i+1)).flatMap bU) (i+1) (a.drop (i+1)))) (fun j=>J.length-j) 0
    ⟨_,_,_,_,rfl,by simp +decide only [↓ aB,E],by simp +decide only [↓ aB,v],by simp +decide only [↓ aB,I],by simp +decide only [↓ aB,X],by simp +decide only [↓ aB];rfl,by simp +decide only [D],by omega,Nat.zero_le _,by rw [show (J.take 0).map AV.num=[] from rfl,List.append_nil];exact by simp +decide only [A],by rw [b,show (J.take 0).map AV.num=[] from rfl,List.append_nil];rfl⟩ ?_
   clear E v I X D N R b hn q A;clear t;rintro j _ ⟨t,k,low,o,rfl,E,v,I,X,t7,D,ai,hj,A,b⟩;have N:=bK (show 0<k by omega);have R:=bK (show 1<k by omega)
   rcases Nat.lt_or_ge j J.length with ah | ap
   ·obtain ⟨y2,Z,ay,ao,am,T,aw,ab⟩:=cO (fun x h=>tu_int.len h) ar B.2 ah
    have U:=fun {d:Option AV}=>tu_int.pf Z (d:=d)
    have Q:=mV ao;obtain ⟨z,rfl⟩:=Z;rw [show (AV.int .i64 z).num=z from rfl]at Q;rw [am,List.map_cons,yP,show (AV.int .i64 z).num=z from rfl]at b
    have aa:u.map AV.num++(a.take i).flatMap bU++(J.take (j+1)).map AV.num=u.map AV.num++(a.take i).flatMap bU++(J.take j).map AV.num++[z]:=by rw [Q];simp
    generalize u.map AV.num++(a.take i).flatMap bU++(J.take j).map AV.num=C at *
    cases k9:inR z ((i:Int)+1) ((a.length:Int)-1) with
    | false=>
      rw [k9,Bool.false_and,Bool.false_and,Bool.false_and]at b;simp +contextual +decide (maxSteps:=1000000) only [↓ wP,wQ,tf,Nat.reduceAdd,wS,E,v,X,t7,D,N,ck,m.idx,w,B.len,B.idx,T,ab,U,w2,af,aH,k9,b]
    | true=>
      rw [k9,Bool.true_and]at b
      have hb:(i:Int)+1<=z/\z<=(a.length:Int)-1:=by simpa [inR] using k9
      have G:(0<=z)=True:=eq_true (by omega);have H:(z<((a.length:Nat):Int))=True:=eq_true (by omega);have Y:(z.toNat<a.length)=True:=eq_true (by omega);have c:=LI (n:=a.length) (L:=C) (show 0<=z by omega) (show z<(a.length:Int) by omega);have V:=PZ (n:=a.length) (L:=C) (show 0<=z by omega) (show z<(a.length:Int) by omega);by_cases YA:z∈C
      ·rw [decide_eq_true YA,Bool.not_true,Bool.false_and,Bool.false_and]at b
       rw [decide_eq_true YA]at c;simp +contextual +decide (maxSteps:=1000000) only [↓ wP,wQ,tf,wS,E,v,I,X,t7,D,A,N,R,ck,m.idx,w,B.len,B.idx,T,ab,U,w2,af,aH,k9,G,H,c,Nat.zero_add,Nat.mul_one,b]
      ·rw [decide_eq_false YA,Bool.not_false,Bool.true_and]at b
       rw [decide_eq_false YA]at c;simp +contextual +decide (maxSteps:=1000000) only [↓ wP,wQ,tf,wS,E,v,I,X,t7,D,A,N,R,ck,m.idx,w,B.len,B.idx,T,ab,U,w2,af,aH,k9,G,H,Y,yO,c,V,aw,Nat.zero_add,Nat.mul_one];exact ⟨j+1,by show _-_<_-_;omega,_,_,_,_,rfl,by simp +decide only [↓ aB,E],by simp +decide only [↓ aB,v],by simp +decide only [↓ aB,I],by simp +decide only [↓ aB,X],by simp +decide only [↓ aB],by simp +decide only [↓ aB,ne_eq,D],ai,ah,by rw [aa];exact by simp +decide only [↓ aB],by rw [aa];exact b⟩
   ·obtain rfl:j=J.length:=Nat.le_antisymm hj ap
    rw [List.take_length,List.append_assoc,<-ae]at A;rw [List.drop_length,List.map_nil,yP,Bool.true_and]at b;simp +contextual +decide (maxSteps:=1000000) only [↓ wP,wQ,tf,Nat.reduceAdd,wS,E,X,t7,D,N,ck,m.idx,w,B.len,bP,hw];exact ⟨i+1,by show _-_<_-_;omega,_,_,_,_,rfl,by simp +decide only [↓ aB,E],by simp +decide only [↓ aB,v],by simp +decide only [↓ aB,I],by simp +decide only [↓ aB],by simp +decide only [D],by omega,F,⟨ai,by simp +decide only [A]⟩,b⟩
  ·obtain rfl:i=a.length:=Nat.le_antisymm hi S
   obtain ⟨⟨q,A⟩,b⟩:=b;have R:=bK (show 1<n by omega);rw [List.take_length]at A;rw [List.drop_length,mF,List.take_length]at b;generalize u.map AV.num++a.flatMap bU=C at *;simp +contextual +decide (maxSteps:=1000000) only [↓ wP,wQ,wS,v,X,bP];have ad:=b;have ac:=q;clear b q;refine aN (fun i e=>∃ t n low o,e=⟨133,none,64,t,[],⟨n,low,o⟩,.no⟩/\t.val 3=.int .i64 (a.length:Nat)/\t.val 4=.sl 1 0 0 a.length (.is a.length)/\t.val 9=.int .i64 (i:Nat)/\o.get 1=some (aW 0 (mE a.length C))/\2<=n/\i<=a.length/\2<=n/\W=((mE a.length C).drop i).all isT) (fun i=>a.length-i) 0 ⟨_,_,_,_,rfl,by simp +decide only [↓ aB,v],by simp +decide only [↓ aB,I],by simp +decide only [↓ aB];rfl,by simp +decide only [A],by omega,Nat.zero_le _,⟨ac,ad⟩⟩ ?_;rintro i _ ⟨t,n,low,o,rfl,v,I,t9,A,hn,hi,b⟩;have R:=bK (show 1<n by omega)
   rcases Nat.lt_or_ge i a.length with F | S
   ·obtain ⟨q,b⟩:=b
    have G:((0:Int)<=(i:Nat))=True:=eq_true (by omega);have H:(((i:Nat):Int)<((a.length:Nat):Int))=True:=eq_true (by omega);have Y:(i<a.length)=True:=eq_true (by omega)
    have hw:IntKind.i64.wrap (((i:Nat):Int)+1)=((i+1:Nat):Int):=by rw [IntWalk.i64_in _ (by omega)];rfl
    have c:=LI (n:=a.length) (L:=C) (f:=i) (by omega) (by omega);rw [Int.toNat_natCast]at c
    have hd:(mE a.length C).drop i=.bool (decide ((i:Int)∈C))::(mE a.length C).drop (i+1):=by
     have ag:i<(mE a.length C).length:=by rw [yO];exact F
     rw [List.drop_eq_getElem_cons ag]
     congr 1
     rw [List.getElem?_eq_getElem ag]at c;exact Option.some.inj c
    rw [hd,List.all_cons,show isT (.bool (decide ((i:Int)∈C)))=decide ((i:Int)∈C) from rfl]at b;by_cases YA:(i:Int)∈C
    ·rw [decide_eq_true YA]at b c
     rw [Bool.true_and]at b;simp +contextual +decide (maxSteps:=1000000) only [↓ wP,wQ,tf,wS,v,I,t9,A,R,G,H,c,hw,Int.toNat_natCast,Nat.zero_add,Nat.mul_one];exact ⟨i+1,by show _-_<_-_;omega,_,_,_,_,rfl,by simp +decide only [↓ aB,v],by simp +decide only [↓ aB,I],by simp +decide only [↓ aB],by simp +decide only [A],by omega,F,⟨q,b⟩⟩
    ·rw [decide_eq_false YA]at b c
     rw [Bool.false_and]at b;simp +contextual +decide (maxSteps:=1000000) only [↓ wP,wQ,tf,wS,v,I,t9,A,R,G,H,c,Int.toNat_natCast,Nat.zero_add,Nat.mul_one,b]
   ·obtain rfl:i=a.length:=Nat.le_antisymm hi S
    obtain ⟨q,b⟩:=b;rw [List.drop_eq_nil_of_le (by rw [yO];exact Nat.le_refl _),List.all_nil]at b;simp +contextual +decide (maxSteps:=1000000) only [↓ wP,wQ,wS,v,t9,bP,b]
end
def UT:Nat->AV->Bool
 | 0,_=>true
 | d+1,a=>(a.fld 3).els.all (UT d)&&decide (((a.fld 2).txt.length:Int)<=30)
theorem aHa:∀ {d b:Nat} {a:AV},TPatN d a->TPatN b a->UT d a=UT b a
 | 0,_,_,h,_=>h.elim
 | _,0,_,_,h=>h.elim
 | d+1,b+1,a,h,o=>by
   obtain ⟨x,y,z,u,rfl,_,_,_,xs,m,r⟩:=h;obtain ⟨_,_,_,_,e,_,_,_,k,c,f⟩:=o;cases e
   have:xs=k:=by rw [<-m.els,c.els]
   subst this;have p:((AV.agg [x,y,z,u]).fld 3).els=xs:=m.els;simp only [UT,p];rw [wD fun q l=>aHa (r q l) (f q l)]
abbrev spV (d:Nat):List AV->Option AV:=vE (TPatN d) fun a=>.bool (UT d a)
set_option maxHeartbeats 1000000 in
theorem aNy:∀ d,Abs.Ok Tryz.prog 72 (spV d)
 | 0=>AH fun a h=>h.elim
 | d+1=>AH fun a G=>by
   have D:=(cJ (d+1) a G).1;obtain ⟨p,r,st,pa,rfl,w,B,⟨s,rfl,T⟩,J⟩:=G;have M:=(tu_int _ w).2;have N:=(tu_int _ B).2;have O:=(gW (iZ (cJ d)) _ J).2;obtain ⟨xs,c,E⟩:=J;have S:=c.2;refine aF (L:=[ent 72 (spV d)]) (elist_cons (aNy d).ent aE) aG (by kernel_rfl) Tryz.func72 Tryz.ntmps72 Tryz.results72 rfl rfl (aA D.und aD) aI ?_
   have C:UT (d+1) (.agg [p,r,.str s,pa])=(xs.all (UT d)&&decide ((s.length:Int)<=30)):=by
    rw [UT,show ((AV.agg [p,r,.str s,pa]).fld 3).els=xs from c.els];rfl
   generalize UT (d+1) (.agg [p,r,.str s,pa])=W at *;simp +contextual +decide (maxSteps:=1000000) only [↓ wP,wQ,Nat.reduceAdd,wS,M,N,O];refine aN (fun i e=>∃ t n low o,e=⟨22,none,72,t,[],⟨n,low,o⟩,.no⟩/\t.val 1=.ptr 0 0 0/\t.val 3=.int .i64 (i:Nat)/\o.get 0=some (aW 0 [p,r,.str s,pa])/\1<=n/\i<=xs.length/\W=((xs.drop i).all (UT d)&&decide ((s.length:Int)<=30))) (fun i=>xs.length-i) 0 ⟨_,_,_,_,rfl,by simp +decide only [↓ aB],by simp +decide only [↓ aB];rfl,by simp +decide only [↓ aB],by omega,Nat.zero_le _,C⟩ ?_;rintro i _ ⟨t,n,low,o,rfl,u,F,q,Y,R,b⟩;have v:=bK (show 0<n by omega)
   rcases Nat.lt_or_ge i xs.length with l | A
   ·obtain ⟨y,f,X,V,Q,k,U,H⟩:=cO (fun x h=>(cJ d).len h) E S l
    have m:=fun {P:Option AV}=>(cJ d).pf f (d:=P)
    have I:spV d [y]=some (.bool (UT d y)):=cY f;rw [Q,List.all_cons]at b
    cases k1:UT d y with
    | false=>
      rw [k1,Bool.false_and,Bool.false_and]at b;simp +contextual +decide (maxSteps:=1000000) only [↓ wP,wQ,tf,Nat.reduceAdd,wS,u,F,q,v,c.len,c.idx,k,H,m,I,k1,b]
    | true=>
      rw [k1,Bool.true_and]at b;simp +contextual +decide (maxSteps:=1000000) only [↓ wP,wQ,tf,Nat.reduceAdd,wS,u,F,q,v,c.len,c.idx,k,H,m,I,k1,U];exact ⟨i+1,by show _-_<_-_;omega,_,_,_,_,rfl,by simp +decide only [↓ aB,u],by simp +decide only [↓ aB],by simp +decide only [q],by omega,l,b⟩
   ·obtain rfl:i=xs.length:=Nat.le_antisymm R A
    rw [List.drop_length,List.all_nil,Bool.true_and]at b;simp +contextual +decide (maxSteps:=1000000) only [↓ wP,wQ,tf,Nat.reduceAdd,wS,u,F,q,v,c.len,bP,b]
def jI (a:AV):Bool:=decide (qF (depth a) a<=16)&&UT (depth a) a
theorem LJ {d:Nat} {a:AV} (h:TPatN d a):jI a=(decide (qF d a<=16)&&UT d a):=by
 have b:=QF ⟨d,h⟩;rw [jI,LQ b h,aHa b h]
abbrev AA:List AV->Option AV:=vE wH fun a=>.bool (jI a)
theorem smallPat_ok:Abs.Ok Tryz.prog 30 AA:=AH fun a c=>by
 have l:=(tk_pat a c).1;obtain ⟨d,c⟩:=c;rw [LJ c];have o:spV d [a]=some (.bool (UT d a)):=cY c;have f:wC d [a,.int .i64 16]=some (.int .i64 (wN d a 16)):=sg2_eq ⟨c,_,rfl,by omega,by omega⟩;have h:=XN d a 16 c (by omega);obtain ⟨e,rfl,b,k⟩:=(cJ d a c).2
 have p:0+4<=e.length:=by omega
 refine aF (L:=[ent 71 (wC d),ent 72 (spV d)]) (elist_cons (FP d).ent (elist_cons (aNy d).ent aE)) aG (by kernel_rfl) Tryz.func30 Tryz.ntmps30 Tryz.results30 rfl rfl (aA l.und aD) aI ?_;by_cases k1:qF d (.agg e)<=16
 ·have k2:(wN d (.agg e) 16 ≥ 0)=True:=eq_true (by rw [h];split<;>omega)
  have m:((0:Int)<=wN d (.agg e) 16)=True:=k2;simp +contextual +decide (maxSteps:=1000000) only [↓ wP,wQ,tf,Nat.reduceAdd,wS,b,k,eR b,o,f,k1,k2]
 ·have k2:(wN d (.agg e) 16 ≥ 0)=False:=eq_false (by rw [h];split<;>omega)
  have m:((0:Int)<=wN d (.agg e) 16)=False:=k2;simp +contextual +decide (maxSteps:=1000000) only [↓ wP,wQ,tf,Nat.reduceAdd,wS,b,k,eR b,f,k1,k2]
def nE (x:AV):Bool:=decide (((x.fld 2).els.length:Int)<=10)&&(decide (((x.fld 3).els.length:Int)<=10)&&(x.fld 3).els.all jI)
def yQ (x:AV):Bool:=decide (((x.fld 0).txt.length:Int)<=40)
def eU (ns fs cs:List AV):Bool:=decide ((ns.length:Int)<=320)&&(decide ((fs.length:Int)<=320)&&(decide ((cs.length:Int)<=25)&&(cs.all yQ&&ns.all nE)))
section
variable {ns fs mm cs:AV}
set_option maxHeartbeats 16000000 in
theorem LK (h:PG ns fs mm cs):Abs.Returns Tryz.prog 9 [pg ns fs mm cs] (.bool (eU ns.els fs.els cs.els)):=by
 obtain ⟨V,X,Y,Z⟩:=h.cells;refine aF (L:=[ent 30 AA]) (elist_cons smallPat_ok.ent aE) aG (by kernel_rfl) Tryz.func9 Tryz.ntmps9 Tryz.results9 rfl rfl (aA h.und.und aD) aI ?_;obtain ⟨r,b,ad⟩:=h.ns;obtain ⟨P,D,ah⟩:=h.fs;obtain ⟨v,c,aa⟩:=h.cs;rw [b.els,D.els,c.els];have l:eU r P v=(decide ((r.length:Int)<=320)&&(decide ((P.length:Int)<=320)&&(decide ((v.length:Int)<=25)&&(v.all yQ&&r.all nE)))):=rfl;generalize eU r P v=W at *;by_cases k1:((r.length:Nat):Int) > 320
 ·rw [decide_eq_false (show ¬ ((r.length:Nat):Int)<=320 by omega),Bool.false_and]at l
  simp +contextual +decide (maxSteps:=1000000) only [↓ wP,wQ,tf,Nat.reduceAdd,wS,V,X,Y,Z,b.len,k1,l]
 by_cases k2:((P.length:Nat):Int) > 320
 ·rw [decide_eq_false (show ¬ ((P.length:Nat):Int)<=320 by omega),Bool.false_and,Bool.and_false]at l
  simp +contextual +decide (maxSteps:=1000000) only [↓ wP,wQ,tf,Nat.reduceAdd,wS,V,X,Y,Z,b.len,D.len,k1,k2,l]
 by_cases k3:((v.length:Nat):Int) > 25
 ·rw [decide_eq_false (show ¬ ((v.length:Nat):Int)<=25 by omega),Bool.false_and,Bool.and_false,Bool.and_false]at l
  simp +contextual +decide (maxSteps:=1000000) only [↓ wP,wQ,tf,Nat.reduceAdd,wS,V,X,Y,Z,b.len,D.len,c.len,k1,k2,k3,l]
 rw [decide_eq_true (show ((r.length:Nat):Int)<=320 by omega),Bool.true_and,decide_eq_true (show ((P.length:Nat):Int)<=320 by omega),Bool.true_and,decide_eq_true (show ((v.length:Nat):Int)<=25 by omega),Bool.true_and]at l;simp +contextual +decide (maxSteps:=1000000) only [↓ wP,wQ,tf,Nat.reduceAdd,wS,V,X,Y,Z,b.len,D.len,c.len,k1,k2,k3];refine aN (fun i e=>∃ t n low o,e=⟨74,none,9,t,[],⟨n,low,o⟩,.no⟩/\t.val 1=.ptr 0 0 0/\t.val 3=.int .i64 (i:Nat)/\o.get 0=some (aW 0 [ns,fs,mm,cs])/\1<=n/\i<=v.length/\W=((v.drop i).all yQ&&r.all nE)) (fun i=>v.length-i) 0 ⟨_,_,_,_,rfl,by simp +decide only [↓ aB],by simp +decide only [↓ aB];rfl,by simp +decide only [↓ aB],by omega,Nat.zero_le _,l⟩ ?_;rintro i _ ⟨t,n,low,o,rfl,q,t3,p,hn,hi,a⟩;have w:=bK (show 0<n by omega)
 rcases Nat.lt_or_ge i v.length with A | J
 ·obtain ⟨y,C,hm,hg,hd,u,hw,O⟩:=cO (fun x h=>tk_con.len h) aa c.2 A
  rw [hd,List.all_cons]at a;obtain ⟨_,_,rfl,⟨s,rfl,al⟩,⟨m,rfl⟩⟩:=C;rw [show yQ (.agg [.str s,.int .i64 m])=decide ((s.length:Int)<=40) from rfl]at a;by_cases k4:((s.length:Nat):Int) > 40
  ·rw [decide_eq_false (show ¬ ((s.length:Nat):Int)<=40 by omega),Bool.false_and,Bool.false_and]at a
   simp +contextual +decide (maxSteps:=1000000) only [↓ wP,wQ,tf,Nat.reduceAdd,wS,q,t3,p,w,c.len,c.idx,u,O,k4,a]
  ·rw [decide_eq_true (show ((s.length:Nat):Int)<=40 by omega),Bool.true_and]at a
   simp +contextual +decide (maxSteps:=1000000) only [↓ wP,wQ,tf,Nat.reduceAdd,wS,q,t3,p,w,c.len,c.idx,u,O,k4,hw];exact ⟨i+1,by show _-_<_-_;omega,_,_,_,_,rfl,by simp +decide only [↓ aB,q],by simp +decide only [↓ aB],by simp +decide only [p],by omega,A,a⟩
 ·obtain rfl:i=v.length:=Nat.le_antisymm hi J
  rw [List.drop_length,List.all_nil,Bool.true_and]at a;simp +contextual +decide (maxSteps:=1000000) only [↓ wP,wQ,tf,Nat.reduceAdd,wS,q,t3,p,w,c.len,bP];have af:=a;clear a;refine aN (fun i e=>∃ t n low o,e=⟨74,none,9,t,[],⟨n,low,o⟩,.no⟩/\t.val 1=.ptr 0 0 0/\t.val 4=.int .i64 (i:Nat)/\o.get 0=some (aW 0 [ns,fs,mm,cs])/\1<=n/\i<=r.length/\W=(r.drop i).all nE) (fun i=>r.length-i) 0 ⟨_,_,_,_,rfl,by simp +decide only [↓ aB,q],by simp +decide only [↓ aB];rfl,by simp +decide only [p],by omega,Nat.zero_le _,af⟩ ?_;rintro i _ ⟨t,n,low,o,rfl,q,F,p,hn,hi,a⟩;have w:=bK (show 0<n by omega)
  rcases Nat.lt_or_ge i r.length with A | J
  ·obtain ⟨y,C,hm,hg,hd,u,hw,O⟩:=cO (fun x h=>tk_node.len h) ad b.2 A
   have N:=fun {d:Option AV}=>tk_node.pf C (d:=d)
   rw [hd,List.all_cons]at a;obtain ⟨_,_,ki,pa,rfl,⟨op,rfl⟩,⟨nn,rfl⟩,T,U⟩:=C;have ck:=(aV _ T).2;have cp:=(fY _ U).2;obtain ⟨xk,E,aj⟩:=T;obtain ⟨B,f,ae⟩:=U;rw [show nE (.agg [.int .i64 op,.int .i64 nn,ki,pa])=(decide ((xk.length:Int)<=10)&&(decide ((B.length:Int)<=10)&&B.all jI)) by rw [<-E.els,<-f.els];rfl]at a;by_cases k4:((xk.length:Nat):Int) > 10
   ·rw [decide_eq_false (show ¬ ((xk.length:Nat):Int)<=10 by omega),Bool.false_and,Bool.false_and]at a
    simp +contextual +decide (maxSteps:=1000000) only [↓ wP,wQ,tf,Nat.reduceAdd,wS,q,F,p,w,ck,cp,b.len,b.idx,u,O,N,E.len,k4,dC,a]
   by_cases k5:((B.length:Nat):Int) > 10
   ·rw [decide_eq_false (show ¬ ((B.length:Nat):Int)<=10 by omega),Bool.false_and,Bool.and_false,Bool.false_and]at a
    simp +contextual +decide (maxSteps:=1000000) only [↓ wP,wQ,tf,Nat.reduceAdd,wS,q,F,p,w,ck,cp,b.len,b.idx,u,O,N,E.len,k4,f.len,k5,dC,a]
   rw [decide_eq_true (show ((xk.length:Nat):Int)<=10 by omega),Bool.true_and,decide_eq_true (show ((B.length:Nat):Int)<=10 by omega),Bool.true_and]at a;simp +contextual +decide (maxSteps:=1000000) only [↓ wP,wQ,tf,Nat.reduceAdd,wS,q,F,p,w,ck,cp,b.len,b.idx,u,O,N,E.len,k4,f.len,k5,dC]
   refine aN (fun j e=>∃ t k low o m,e=⟨74,none,9,t,[],⟨k,low,o⟩,.no⟩/\t.val 1=.ptr 0 0 0/\t.val 4=.int .i64 (i:Nat)/\t.val 5=.ptr m 0 0/\t.val 6=.int .i64 (j:Nat)/\o.get 0=some (aW 0 [ns,fs,mm,cs])/\o.get m=some (aW 0 [.int .i64 op,.int .i64 nn,ki,pa])/\0<k/\m<k/\j<=B.length/\W=((B.drop j).all jI&&(r.drop (i+1)).all nE)) (fun j=>B.length-j) 0
    ⟨_,_,_,_,n,rfl,by simp +decide only [↓ aB,q],by simp +decide only [↓ aB,F],by simp +decide only [↓ aB],by simp +decide only [↓ aB];rfl,by simp +decide only [↓ aB,aZ,ne_eq,p,w],by simp +decide only [↓ aB],by omega,by omega,Nat.zero_le _,a⟩ ?_
   clear q F p w a hn;clear t;rintro j _ ⟨t,k,low,o,m,rfl,q,F,t5,t6,p,gm,M,S,hj,a⟩;have w:=bK M;have fm:=bK S
   rcases Nat.lt_or_ge j B.length with R | ac
   ·obtain ⟨y2,G,ak,ai,ab,H,ag,Q⟩:=cO (fun x h=>tk_pat.len h) ae f.2 R
    have I:=fun {d:Option AV}=>tk_pat.pf G (d:=d)
    have he:AA [y2]=some (.bool (jI y2)):=cY G;rw [ab,List.all_cons]at a
    cases k6:jI y2 with
    | false=>
      rw [k6,Bool.false_and,Bool.false_and]at a;simp +contextual +decide (maxSteps:=1000000) only [↓ wP,wQ,tf,Nat.reduceAdd,wS,t5,t6,gm,fm,f.len,f.idx,H,Q,I,he,k6,a]
    | true=>
      rw [k6,Bool.true_and]at a;simp +contextual +decide (maxSteps:=1000000) only [↓ wP,wQ,tf,Nat.reduceAdd,wS,t5,t6,gm,fm,f.len,f.idx,H,Q,I,he,k6,ag];exact ⟨j+1,by show _-_<_-_;omega,_,_,_,_,_,rfl,by simp +decide only [↓ aB,q],by simp +decide only [↓ aB,F],by simp +decide only [↓ aB,t5],by simp +decide only [↓ aB],by simp +decide only [p],by simp +decide only [gm],M,S,R,a⟩
   ·obtain rfl:j=B.length:=Nat.le_antisymm hj ac
    rw [List.drop_length,List.all_nil,Bool.true_and]at a;simp +contextual +decide (maxSteps:=1000000) only [↓ wP,wQ,tf,Nat.reduceAdd,wS,F,t5,t6,gm,fm,f.len,bP,hw];exact ⟨i+1,by show _-_<_-_;omega,_,_,_,_,rfl,by simp +decide only [↓ aB,q],by simp +decide only [↓ aB],by simp +decide only [p],M,A,a⟩
  ·obtain rfl:i=r.length:=Nat.le_antisymm hi J
   rw [List.drop_length,List.all_nil]at a;simp +contextual +decide (maxSteps:=1000000) only [↓ wP,wQ,tf,Nat.reduceAdd,wS,q,F,p,w,b.len,bP,a]
end
end
end Go.Proofs.YtpmccfnfikkkbaaGreat
