/-
  The references of terms and programs: names, and how many nodes patterns have; constructors.
-/
import Derived.Test.YtpmccfnfikkkbaaGreatOa
set_option linter.unusedVariables false
set_option linter.unusedSimpArgs false
namespace Go.Proofs.YtpmccfnfikkkbaaGreat
open Go.Abs Go Go.Abs.TryzF
noncomputable section
set_option maxRecDepth 10000
theorem rsmall_ok:Abs.Ok Tryz.prog 228 (AC fW):=AH fun a w=>by
 obtain ⟨l,rfl,D,C⟩:=w;refine aF (L:=[]) aE aG (by kernel_rfl) Tryz.func228 Tryz.ntmps228 Tryz.results228 rfl rfl (aA bQ aD) aI ?_;show Wk _ _ _ _ _ (jM _ _ (fun _ r=>r=.bool (fW l)) _);simp +contextual +decide (maxSteps:=1000000) only [↓ wP,wQ];refine aN (fun i e=>∃ t n low o,e=⟨20,none,228,t,[],⟨n,low,o⟩,.no⟩/\t.val 0=.str l/\t.val 3=.int .i64 (i:Nat)/\0<=n/\i<=l.length/\fW l=fW (l.drop i)) (fun i=>l.length-i) 0 ⟨_,_,_,_,rfl,by simp +decide only [↓ aB,bN,aZ],by simp +decide only [↓ aB];rfl,by omega,Nat.zero_le _,rfl⟩ ?_;rintro i _ ⟨t,n,low,o,rfl,m,p,E,A,b⟩
 rcases Nat.lt_or_ge i l.length with h | u
 ·have y:l.drop i=l.getD i 0::l.drop (i+1):=by rw [List.drop_eq_getElem_cons h];congr 1;simp [List.getD_eq_getElem?_getD,h]
  rw [y,BC]at b;have k:(((i:Nat):Int)<((l.length:Nat):Int))=True:=eq_true (by omega)
  have B:IntKind.i64.wrap ((i:Int)+1)=((i+1:Nat):Int):=by rw [IntWalk.i64_in _ (by omega)];rfl
  have f:∀ {d:Option AV},GV (some 0) l (.int .i64 (i:Nat)) d=some (.int .u8 (l.getD i 0:Nat)):=BZ (by omega) (by omega);generalize l.getD i 0=c at *;by_cases q:((c:Nat):Int)<97
  ·rw [show iA c=false by simp [iA];omega,Bool.false_and]at b
   simp +contextual +decide (maxSteps:=1000000) only [↓ wP,wQ,tf,wS,m,p,f,k,q,b]
  ·by_cases v:((c:Nat):Int) > 122
   ·rw [show iA c=false by simp [iA];omega,Bool.false_and]at b
    simp +contextual +decide (maxSteps:=1000000) only [↓ wP,wQ,tf,wS,m,p,f,k,q,v,b]
   ·rw [show iA c=true by simp [iA];omega,Bool.true_and]at b
    simp +contextual +decide (maxSteps:=1000000) only [↓ wP,wQ,tf,wS,m,p,f,k,q,v,B];exact ⟨i+1,by show _-_<_-_;omega,_,_,_,_,rfl,by simp +decide only [↓ aB,m],by simp +decide only [↓ aB],by omega,h,b⟩
 ·obtain rfl:i=l.length:=Nat.le_antisymm A u
  rw [List.drop_length]at b;have k:(((l.length:Nat):Int)<((l.length:Nat):Int))=False:=eq_false (by omega);simp +contextual +decide (maxSteps:=1000000) only [↓ wP,wQ,tf,wS,m,p,k,b];rfl
theorem rgreat_ok:Abs.Ok Tryz.prog 212 (AC fX):=AH fun a m=>by
 have q:=m;obtain ⟨l,rfl,v,o⟩:=m;refine aF (L:=[ent 228 (AC fW)]) (elist_cons rsmall_ok.ent aE) aG (by kernel_rfl) Tryz.func212 Tryz.ntmps212 Tryz.results212 rfl rfl (aA bQ aD) aI ?_;show Wk _ _ _ _ _ (jM _ _ (fun _ r=>r=.bool (fX l)) _)
 cases l with
 | nil=>simp +contextual +decide (maxSteps:=1000000) only [↓ wP,wQ,tf,wS];rfl
 | cons c l=>
   have C:=o c (List.mem_cons_self ..);have w:AC fW [.str l]=some (.bool (fW l)):=CM ⟨l,rfl,by simp at v;omega,fun x y=>o x (List.mem_cons_of_mem _ y)⟩
   have u:fX (c::l)=(decide (l.length+1<=8)&&decide (65<=c)&&decide (c<=90)&&fW l):=by simp [fX]
   rw [u];have b:∀ {d:Option AV},GV (some 0) (c::l) (.int .i64 0) d=some (.int .u8 (c:Nat)):=BZ (by omega) (by simp);have h:∀ {d:Option AV},vT (some 0) (c::l) (some (.int .i64 1)) none d=some (.str l):=JN (by omega) (by rw [List.length_cons];omega);have e:(((l.length+1:Nat):Int) ≥ 1)=True:=eq_true (by omega);have A:((1:Int)<=((l.length+1:Nat):Int))=True:=eq_true (by omega);have f:(((l.length+1:Nat):Int)<=8)=(l.length+1<=8):=propext (by omega);have k:(((c:Nat):Int) ≥ 65)=(65<=c):=propext (by omega);have B:((65:Int)<=((c:Nat):Int))=(65<=c):=propext (by omega);have p:(((c:Nat):Int)<=90)=(c<=90):=propext (by omega);by_cases k1:l.length+1<=8
   ·by_cases k2:65<=c
    ·by_cases k3:c<=90
     ·simp +contextual +decide (maxSteps:=1000000) only [↓ wP,wQ,tf,wS,b,h,e,f,k,p,k1,k2,k3,w]
     ·simp +contextual +decide (maxSteps:=1000000) only [↓ wP,wQ,tf,wS,b,e,f,k,p,k1,k2,k3]
    ·simp +contextual +decide (maxSteps:=1000000) only [↓ wP,wQ,tf,wS,b,e,f,k,k1,k2]
   ·simp +contextual +decide (maxSteps:=1000000) only [↓ wP,wQ,tf,wS,e,f,k1]
abbrev aLq:List AV->Option AV:=wK (fun a b=>aHo a/\sC b) fun a b=>.bool (a.els.any fun x=>decide (x.txt=b.txt))
theorem has_ok:Abs.Ok Tryz.prog 91 aLq:=ok2 fun a b ⟨C,E⟩=>by
 have v:=(gW (AG tu_str) a C).1;obtain ⟨s,rfl,I⟩:=E;obtain ⟨xs,f,w⟩:=C;have H:=f.2;refine aF (L:=[]) aE aG (by kernel_rfl) Tryz.func91 Tryz.ntmps91 Tryz.results91 rfl rfl (aA v.und (aA bQ aD)) aI ?_;rw [f.els,show (AV.str s).txt=s from rfl];simp +contextual +decide (maxSteps:=1000000) only [↓ wP,wQ];refine aN (fun i e=>∃ t n low o,e=⟨18,none,91,t,[],⟨n,low,o⟩,.no⟩/\t.val 0=a/\t.val 1=.str s/\t.val 5=.int .i64 (i:Nat)/\0<=n/\i<=xs.length/\(xs.any fun x=>decide (x.txt=s))=((xs.drop i).any fun x=>decide (x.txt=s))) (fun i=>xs.length-i) 0 ⟨_,_,_,_,rfl,by simp +decide only [↓ aB,bN,aZ],by simp +decide only [↓ aB,bN,aZ],by simp +decide only [↓ aB];rfl,by omega,Nat.zero_le _,rfl⟩ ?_;rintro i _ ⟨t,n,low,o,rfl,q,A,B,O,G,c⟩
 rcases Nat.lt_or_ge i xs.length with m | r
 ·obtain ⟨y,k,N,M,F,l,J,D⟩:=cO (fun x h=>tu_str.len h) w H m
  rw [F,List.any_cons]at c
  have u:=fun {d:Option AV}=>tu_str.pf k (d:=d)
  obtain ⟨z,rfl,_⟩:=k;by_cases p:z=s
  ·rw [show (AV.str z).txt=z from rfl,decide_eq_true p,Bool.true_or]at c
   simp +contextual +decide (maxSteps:=1000000) only [↓ wP,wQ,tf,wS,q,A,B,f.len,f.idx,l,D,p,c]
  ·rw [show (AV.str z).txt=z from rfl,decide_eq_false p,Bool.false_or]at c
   simp +contextual +decide (maxSteps:=1000000) only [↓ wP,wQ,tf,wS,q,A,B,f.len,f.idx,l,D,u,p,J];exact ⟨i+1,by show _-_<_-_;omega,_,_,_,_,rfl,by simp +decide only [↓ aB,q],by simp +decide only [↓ aB,A],by simp +decide only [↓ aB],by omega,m,c⟩
 ·obtain rfl:i=xs.length:=Nat.le_antisymm G r
  rw [List.drop_length,List.any_nil]at c;simp +contextual +decide (maxSteps:=1000000) only [↓ wP,wQ,tf,wS,q,B,f.len,bP,c]
def lS:List AV->List AV->Bool
 | _,[]=>true
 | pre,x::l=>!(pre.any fun y=>decide (y.txt=x.txt))&&lS (pre++[x]) l
abbrev aHc:List AV->Option AV:=vE aHo fun a=>.bool (lS [] a.els)
set_option maxHeartbeats 1000000 in
theorem UW:Abs.Ok Tryz.prog 89 aHc:=AH fun a G=>by
 have E:=(gW (AG tu_str) a G).1;obtain ⟨xs,f,p⟩:=G;have O:=f.2;refine aF (L:=[ent 91 aLq]) (elist_cons has_ok.ent aE) (fun r=>(bif Nat.beq r 4 then [7] else [],[])) (by kernel_rfl) Tryz.func89 Tryz.ntmps89 Tryz.results89 rfl rfl (aA E.und aD) aI ?_;rw [f.els];simp +contextual +decide (maxSteps:=1000000) only [↓ wP,wQ];refine aN (fun i e=>∃ t n low o,e=⟨18,none,89,t,[],⟨n,low,o⟩,.no⟩/\t.val 0=a/\t.val 3=.int .i64 (i:Nat)/\0<=n/\i<=xs.length/\lS [] xs=lS (xs.take i) (xs.drop i)) (fun i=>xs.length-i) 0 ⟨_,_,_,_,rfl,by simp +decide only [↓ aB,bN,aZ],by simp +decide only [↓ aB];rfl,by omega,Nat.zero_le _,rfl⟩ ?_;rintro i _ ⟨t,n,low,o,rfl,A,F,R,N,m⟩
 rcases Nat.lt_or_ge i xs.length with u | C
 ·obtain ⟨y,l,I,M,J,q,P,H⟩:=cO (fun x h=>tu_str.len h) p O u
  have v:=fun {d:Option AV}=>tu_str.pf l (d:=d)
  obtain ⟨b,B,w⟩:=f.upto (k:=1) (fun x I=>tu_str.len (p x I)) (n:=((i:Nat):Int)) (by omega) (by omega);rw [Int.toNat_natCast]at B
  have D:xs.take (i+1)=xs.take i++[y]:=by rw [List.take_add_one,M];rfl
  have c:aLq [b,y]=some (.bool ((xs.take i).any fun x=>decide (x.txt=y.txt))):=by
   rw [aLq,sg2_eq ⟨⟨_,B,fun x Q=>p x (List.mem_of_mem_take Q)⟩,l⟩,B.els]
  rw [J,lS,<-D]at m;obtain ⟨z,rfl,_⟩:=l
  cases k3:(xs.take i).any fun x=>decide (x.txt=(AV.str z).txt) with
  | true=>
    rw [k3,Bool.not_true,Bool.false_and]at m;rw [k3]at c;simp +contextual +decide (maxSteps:=1000000) only [↓ wP,wQ,tf,Nat.reduceAdd,wS,A,F,f.len,f.idx,q,H,v,w,c,m]
  | false=>
    rw [k3,Bool.not_false,Bool.true_and]at m;rw [k3]at c;simp +contextual +decide (maxSteps:=1000000) only [↓ wP,wQ,tf,Nat.reduceAdd,wS,A,F,f.len,f.idx,q,H,v,w,c,P];exact ⟨i+1,by show _-_<_-_;omega,_,_,_,_,rfl,by simp +decide only [↓ aB,A],by simp +decide only [↓ aB],by omega,u,m⟩
 ·obtain rfl:i=xs.length:=Nat.le_antisymm N C
  rw [List.drop_length,lS]at m;simp +contextual +decide (maxSteps:=1000000) only [↓ wP,wQ,tf,wS,A,F,f.len,bP,m]
def wL (f:AV->Int->Int):List AV->Int->Int
 | [],left=>left
 | q::l,left=>if 0<=left then wL f l (f q left) else left
def wN:Nat->AV->Int->Int
 | 0,_,_=>0
 | d+1,a,left=>if left<1 then -1 else wL (wN d) (a.fld 3).els (left-1)
theorem aHd {f:AV->Int->Int} {c:AV->Nat}:∀ (l:List AV) (left:Int),(∀ q∈l,1<=c q/\∀ m,-1<=m->f q m=if (c q:Int)<=m then m-c q else -1)->-1<=left->wL f l left=if (((l.map c).sum:Nat):Int)<=left then left-((l.map c).sum:Nat) else -1
 | [],left,_,h=>by
   simp only [wL,List.map_nil,List.sum_nil];by_cases a:0<=left
   ·simp [a]
   ·have:left=-1:=by omega
    simp [this]
 | q::l,left,b,h=>by
   obtain ⟨o,k⟩:=b q (List.mem_cons_self ..);simp only [wL,List.map_cons,List.sum_cons];by_cases a:0<=left
   ·rw [if_pos a,k _ (by omega)]
    by_cases e:((c q:Nat):Int)<=left
    ·rw [if_pos e,aHd l _ (fun q d=>b q (List.mem_cons_of_mem _ d)) (by omega)]
     split<;>split<;>omega
    ·rw [if_neg e,aHd l _ (fun q d=>b q (List.mem_cons_of_mem _ d)) (by omega)]
     split<;>split<;>omega
   ·rw [if_neg a,if_neg (by omega)];omega
theorem XN:∀ (d:Nat) (a:AV) (left:Int),TPatN d a->-1<=left->wN d a left=if ((qF d a:Nat):Int)<=left then left-qF d a else -1
 | 0,_,_,h,_=>h.elim
 | d+1,a,left,h,p=>by
   obtain ⟨x,y,z,u,rfl,_,_,_,xs,l,f⟩:=h;have o:((AV.agg [x,y,z,u]).fld 3).els=xs:=l.els;simp only [wN,qF,o];by_cases b:left<1
   ·rw [if_pos b,if_neg (by omega)]
   ·rw [if_neg b,aHd (c:=qF d) xs _ (fun q e=>⟨FT (f q e),fun m k=>XN d q m (f q e) k⟩) (by omega)]
    split<;>split<;>omega
theorem aTq {d:Nat} {a:AV} {left:Int} (h:TPatN d a) (b:-1<=left):-1<=wN d a left/\(wN d a left<=left∨wN d a left=-1):=by
 have:=XN d a left h b;split at this<;>omega
abbrev wC (d:Nat):List AV->Option AV:=wK (fun a b=>TPatN d a/\∃ m,b=.int .i64 m/\-1<=m/\m<=1000) fun a b=>.int .i64 (wN d a b.num)
set_option maxHeartbeats 2000000 in
theorem FP:∀ d,Abs.Ok Tryz.prog 71 (wC d)
 | 0=>ok2 fun a b ⟨h,_⟩=>h.elim
 | d+1=>ok2 fun a b ⟨O,left,e,h0,h1⟩=>by
   subst e;have G:=(cJ (d+1) a O).1;obtain ⟨_,_,st,pa,rfl,⟨f,rfl⟩,⟨n,rfl⟩,F,Q⟩:=O;have cs:=(tu_str _ F).2;have N:=(gW (iZ (cJ d)) _ Q).2;obtain ⟨xs,q,H⟩:=Q;have X:=q.2;refine aF (L:=[ent 71 (wC d)]) (elist_cons (FP d).ent aE) aG (by kernel_rfl) Tryz.func71 Tryz.ntmps71 Tryz.results71 rfl rfl (aA G.und (aA aO aD)) aO ?_
   have c:wN (d+1) (.agg [.int .i64 f,.int .i64 n,st,pa]) left=if left<1 then -1 else wL (wN d) xs (left-1):=by
    rw [wN,show ((AV.agg [.int .i64 f,.int .i64 n,st,pa]).fld 3).els=xs from q.els]
   show Wk _ _ _ _ _ (jM _ _ (fun _ r=>r=.int .i64 (wN (d+1) (.agg [.int .i64 f,.int .i64 n,st,pa]) left)) _);generalize wN (d+1) (.agg [.int .i64 f,.int .i64 n,st,pa]) left=W at *;by_cases k0:left<1
   ·rw [if_pos k0]at c
    simp +contextual +decide (maxSteps:=1000000) only [↓ wP,wQ,Nat.reduceAdd,wS,cs,N,k0,c]
   rw [if_neg k0]at c;have Z:IntKind.i64.wrap (left-1)=left-1:=IntWalk.i64_in _ (by omega);simp +contextual +decide (maxSteps:=1000000) only [↓ wP,wQ,Nat.reduceAdd,wS,cs,N,k0,Z]
   refine aN (fun i e=>∃ t k low o m,e=⟨29,none,71,t,[],⟨k,low,o⟩,.no⟩/\t.val 1=.int .i64 m/\t.val 2=.ptr 0 0 0/\t.val 5=.int .i64 (i:Nat)/\o.get 0=some (aW 0 [.int .i64 f,.int .i64 n,st,pa])/\1<=k/\i<=xs.length/\-1<=m/\m<=1000/\W=wL (wN d) (xs.drop i) m) (fun i=>xs.length-i) 0
    ⟨_,_,_,_,left-1,rfl,by simp +decide only [↓ aB],by simp +decide only [↓ aB],by simp +decide only [↓ aB];rfl,by simp +decide only [↓ aB],by omega,Nat.zero_le _,by omega,by omega,c⟩ ?_
   rintro i _ ⟨t,k,low,o,m,rfl,J,y,M,w,V,U,v,D,p⟩;have A:=bK (show 0<k by omega)
   rcases Nat.lt_or_ge i xs.length with u | B
   ·obtain ⟨x,l,hm,hg,S,C,Y,P⟩:=cO (fun x h=>(cJ d).len h) H X u
    have E:=fun {R:Option AV}=>(cJ d).pf l (d:=R)
    rw [S,wL]at p;by_cases k1:0<=m
    ·rw [if_pos k1]at p
     have hb:=aTq l v;have T:wC d [x,.int .i64 m]=some (.int .i64 (wN d x m)):=sg2_eq ⟨l,_,rfl,v,D⟩;have I:(m ≥ 0)=True:=eq_true k1;simp +contextual +decide (maxSteps:=1000000) only [↓ wP,wQ,tf,Nat.reduceAdd,wS,J,y,M,w,A,q.len,q.idx,C,P,E,k1,T,Y];exact ⟨i+1,by show _-_<_-_;omega,_,_,_,_,_,rfl,by simp +decide only [↓ aB],by simp +decide only [↓ aB,y],by simp +decide only [↓ aB],by simp +decide only [w],V,u,by omega,by omega,p⟩
    ·rw [if_neg k1]at p
     have I:(m ≥ 0)=False:=eq_false k1;simp +contextual +decide (maxSteps:=1000000) only [↓ wP,wQ,tf,Nat.reduceAdd,wS,J,y,M,w,A,q.len,P,k1,p]
   ·obtain rfl:i=xs.length:=Nat.le_antisymm U B
    rw [List.drop_length,wL]at p;simp +contextual +decide (maxSteps:=1000000) only [↓ wP,wQ,tf,Nat.reduceAdd,wS,J,y,M,w,A,q.len,bP,p]
theorem rIn5_ok:Abs.Ok Tryz.prog 133 iC:=by
 intro args v b;unfold iC at b;split at b<;>cases b;rename_i n l h;refine aF (L:=[]) aE aG (by kernel_rfl) Tryz.func133 Tryz.ntmps133 Tryz.results133 rfl rfl (aA aO (aA aO (aA aO aD))) aI ?_;by_cases a:l<=n
 ·simp +contextual +decide (maxSteps:=1000000) only [↓ wP,wQ,wS,a]
  simp [inR,a]
 ·simp +contextual +decide (maxSteps:=1000000) only [↓ wP,wQ,wS,a]
  simp [inR,a]
def tO (cs:List AV):Bool:=cs.all tP&&(decide ((cs.length:Int)<=20)&&lS [] (cs.map (AV.fld 0)))
abbrev UX:List AV->Option AV:=vE (fun a=>sA a/\a.els.length<=1000) fun a=>.bool (tO a.els)
set_option maxHeartbeats 4000000 in
theorem rcons_ok:Abs.Ok Tryz.prog 134 UX:=AH fun a ⟨Q,B⟩=>by
 have N:=(dW a Q).1;obtain ⟨xs,c,E⟩:=Q;rw [c.els]at B ⊢;have hl:=c.2
 have f:∀ x∈xs.map (AV.fld 0),sC x:=fun x D=>by
  obtain ⟨y,hy,rfl⟩:=List.mem_map.1 D;obtain ⟨_,_,rfl,T,_⟩:=E y hy;exact T
 have C:Sl (cH (xs.map (AV.fld 0))) (xs.map (AV.fld 0)):=tS (by simp;omega)
 have U:∀ args s,(∃ v,args=[v]/\AccV v s.n s.o (xs.map (AV.fld 0)))->dE Tryz.prog 89 args s (.ret (.bool (lS [] (xs.map (AV.fld 0)))) none):=fun args s ⟨v,e,hv⟩=>by
  subst e;have h:=UW [cH (xs.map (AV.fld 0))] _ (cY ⟨_,C,f⟩);rw [C.els]at h;obtain ⟨n,low,o⟩:=s;exact vD h oF ⟨AccV.frz hv (fun x D=>(tu_str x (f x D)).2) fun x D=>(tu_str x (f x D)).1.und,trivial⟩
 refine aF (L:=[ent 212 (AC fX),ent 133 iC,entB 89 (fun args s=>∃ v,args=[v]/\AccV v s.n s.o (xs.map (AV.fld 0))) fun _=>.bool (lS [] (xs.map (AV.fld 0)))]) (elist_cons rgreat_ok.ent (elist_cons rIn5_ok.ent (elist_cons (entB_ok U) aE))) aG (by kernel_rfl) Tryz.func134 Tryz.ntmps134 Tryz.results134 rfl rfl (aA N.und aD) aI ?_;have M:tO xs=(xs.all tP&&(decide ((xs.length:Int)<=20)&&lS [] (xs.map (AV.fld 0)))):=rfl;generalize tO xs=W at *;simp +contextual +decide (maxSteps:=1000000) only [↓ wP,wQ]
 refine aN (fun i e=>∃ t n low o v,e=⟨42,none,134,t,[],⟨n,low,o⟩,.no⟩/\t.val 0=a/\t.val 3=v/\t.val 4=.int .i64 (i:Nat)/\i<=xs.length/\AccV v n o ((xs.take i).map (AV.fld 0))/\W=((xs.drop i).all tP&&(decide ((xs.length:Int)<=20)&&lS [] (xs.map (AV.fld 0))))) (fun i=>xs.length-i) 0
  ⟨_,_,_,_,_,rfl,by simp +decide only [↓ aB,bN,aZ],by simp +decide only [↓ aB],by simp +decide only [↓ aB];rfl,Nat.zero_le _,.inl ⟨rfl,rfl⟩,M⟩ ?_
 rintro i _ ⟨t,n,low,o,v,rfl,q,O,w,Z,d,b⟩
 rcases Nat.lt_or_ge i xs.length with r | H
 ·obtain ⟨x,G,hm,Y,V,l,R,F⟩:=cO (fun x h=>tk_con.len h) E hl r
  have u:(xs.take (i+1)).map (AV.fld 0)=(xs.take i).map (AV.fld 0)++[x.fld 0]:=by rw [List.take_add_one,Y];simp
  rw [V,List.all_cons,Bool.and_assoc]at b;obtain ⟨_,_,rfl,⟨s,rfl,J⟩,⟨m,rfl⟩⟩:=G;have k:AC fX [.str s]=some (.bool (fX s)):=CM ⟨s,rfl,J⟩;rw [show tP (.agg [.str s,.int .i64 m])=(fX s&&inR m 0 3) from rfl]at b;rw [show (AV.agg [.str s,.int .i64 m]).fld 0=.str s from rfl]at u
  have p:(2*(((xs.take i).map (AV.fld 0)).length+1)+1024)*16<=281474976710656/\((xs.take i).map (AV.fld 0)).length+1<4611686018427387904:=by simp;omega
  cases k1:fX s with
  | false=>
    rw [k1,Bool.false_and,Bool.false_and]at b;simp +contextual +decide (maxSteps:=1000000) only [↓ wP,wQ,tf,wS,q,w,c.len,c.idx,l,F,k,k1,b]
  | true=>
    cases k2:inR m 0 3 with
    | false=>
      rw [k1,k2,Bool.and_false,Bool.false_and]at b;simp +contextual +decide (maxSteps:=1000000) only [↓ wP,wQ,tf,wS,q,w,c.len,c.idx,l,F,k,aH,k1,k2,b]
    | true=>
      rw [k1,k2,Bool.and_true,Bool.true_and]at b;generalize (xs.take i).map (AV.fld 0)=L at *
      rcases d with ⟨P,rfl⟩ | ⟨P,id,g,rfl,I,A⟩
      ·simp +contextual +decide (maxSteps:=1000000) only [↓ wP,wQ,tf,Nat.reduceAdd,wS,q,O,w,c.len,c.idx,l,F,k,aH,k1,k2,dC,R,Nat.reduceMul]
       refine ⟨i+1,by show _-_<_-_;omega,_,_,_,_,_,rfl,by simp +decide only [↓ aB,q],by simp +decide only [↓ aB];rfl,by simp +decide only [↓ aB],r,?_,b⟩;rw [u,P];exact AccV.new (g:=0) (m:=1) (by simp +decide only [↓ aB,aZ]) rfl (by simp) (by omega)
      ·have S:=bK A
       simp +contextual +decide (maxSteps:=1000000) only [↓ wP,wQ,tf,wS,q,O,w,c.len,c.idx,l,F,k,aH,k1,k2,dC,S,I,p,R,Nat.mul_one,Nat.zero_add];refine ⟨i+1,by show _-_<_-_;omega,_,_,_,_,_,rfl,by simp +decide only [↓ aB,q],by simp +decide only [↓ aB];rfl,by simp +decide only [↓ aB],r,?_,b⟩;rw [u];exact AccV.new (g:=g+1) (by simp +decide only [↓ aB]) (by simp) (by simp) (by omega)
 ·obtain rfl:i=xs.length:=Nat.le_antisymm Z H
  rw [List.take_length]at d;rw [List.drop_length,List.all_nil,Bool.true_and]at b
  have X:∀ {low:Nat},bJ [entB 89 (fun args s=>∃ v,args=[v]/\AccV v s.n s.o (xs.map (AV.fld 0))) fun _=>.bool (lS [] (xs.map (AV.fld 0)))] 89 [v] ⟨n,low,o⟩=some (.ret (.bool (lS [] (xs.map (AV.fld 0)))) none):=fun {low}=>fJ ⟨v,rfl,d⟩
  by_cases k1:((xs.length:Nat):Int)<=20
  ·rw [decide_eq_true k1,Bool.true_and]at b
   simp +contextual +decide (maxSteps:=1000000) only [↓ wP,wQ,tf,wS,q,O,w,c.len,bP,k1,X,b]
  ·rw [decide_eq_false k1,Bool.false_and]at b
   simp +contextual +decide (maxSteps:=1000000) only [↓ wP,wQ,tf,wS,q,w,c.len,bP,k1,b]
theorem aLr {cs:List AV} {f n k:Int}:jJ cs f n k=(
 if f=1 then decide (n=0)&&decide (k=0) else if f=2 then decide (n=0)&&decide (k=0) else if f=5 then decide (n=0)&&decide (k=0)
 else if f=3 then qK n&&decide (k=0) else if f=4 then inR n 0 1&&decide (k=0)
 else if f=6 then inR n 0 ((cs.length:Int)-1)&&decide (k=((cs.getD n.toNat .top).fld 1).num) else false):=rfl
abbrev FQ (d:Nat):List AV->Option AV:=wK (fun a b=>TPatN d a/\sA b) fun a b=>.bool (kH b.els d a)
def BB:Code->Option Code
 | .seq a b=>match BB a with
   | some l=>some l
   | none=>BB b
 | .cond _ a b=>match BB a with
   | some l=>some l
   | none=>BB b
 | .block _ a=>BB a
 | .scope a=>BB a
 | .loop a=>some (.loop a)
 | _=>none
abbrev aTr (d:Nat):List lX:=[ent 133 iC,ent 213 (FQ d)]
set_option maxHeartbeats 2000000 in
theorem aBu {d:Nat} {b pa:AV} {a u:List AV} {f n:Int} {s:List Nat} (Y:sC (.str s)) (S:sA b) (L:b.els=u) (p:Sl pa a) (J:∀ x∈a,TPatN d x) (O:Code) (H:BB ((Tryz.f213).body.getD .skip)=some O) {Q:Ex->Env->Prop}
 (c:Bool) (t:Tr AV) (k low:Nat) (o:Tr AObj) (C:t.val 1=b) (D:t.val 2=.ptr 0 0 0) (q:t.val 5=.bool c) (r:t.val 6=.int .i64 (a.length:Nat)) (v:t.val 7=.int .i64 0) (w:o.get 0=some (aW 0 [.int .i64 f,.int .i64 n,.str s,pa])) (E:1<=k)
 (M:∀ t k low o,t.val 5=.bool (c&&a.all (kH u d))->Q (.exit 1) ⟨82,none,213,t,[],⟨k,low,o⟩,.no⟩):Wk Tryz.prog (bJ (aTr d)) aG O ⟨82,none,213,t,[],⟨k,low,o⟩,.no⟩ Q:=by
 cases H;have cp:=p.cell;have X:=p.2;have B:(c&&a.all (kH u d))=(c&&(a.drop 0).all (kH u d)):=rfl;generalize (c&&a.all (kH u d))=W at *
 refine aN (fun i e=>∃ t k low o m,e=⟨82,none,213,t,[],⟨k,low,o⟩,.no⟩/\t.val 1=b/\t.val 2=.ptr 0 0 0/\t.val 5=.bool m/\t.val 6=.int .i64 (a.length:Nat)/\t.val 7=.int .i64 (i:Nat)/\o.get 0=some (aW 0 [.int .i64 f,.int .i64 n,.str s,pa])/\1<=k/\i<=a.length/\W=(m&&(a.drop i).all (kH u d))) (fun i=>a.length-i) 0
  ⟨t,k,low,o,c,rfl,C,D,q,r,v,w,E,Nat.zero_le _,B⟩ ?_
 clear C D q r v w E B;rintro i _ ⟨t,k,low,o,m,rfl,C,D,q,r,v,w,E,V,l⟩;have R:=bK (show 0<k by omega)
 rcases Nat.lt_or_ge i a.length with A | F
 ·obtain ⟨x,y,hm,hg,T,G,Z,N⟩:=cO (fun x h=>(cJ d).len h) J X A
  have I:=fun {P:Option AV}=>(cJ d).pf y (d:=P)
  rw [T,List.all_cons]at l
  cases m with
  | false=>
    rw [Bool.false_and]at l;simp +contextual +decide (maxSteps:=1000000) only [↓ wP,wQ,wS,q,r,v,N];exact M _ _ _ _ (by rw [l];exact by simp +decide only [↓ aB,q])
  | true=>
    have U:FQ d [x,b]=some (.bool (kH u d x)):=by rw [FQ,sg2_eq ⟨y,S⟩,L]
    rw [Bool.true_and]at l;simp +contextual +decide (maxSteps:=1000000) only [↓ wP,wQ,tf,Nat.reduceAdd,wS,C,D,q,r,v,w,R,p.idx,G,N,I,U,Z];exact ⟨i+1,by show _-_<_-_;omega,_,_,_,_,_,rfl,by simp +decide only [↓ aB,C],by simp +decide only [↓ aB,D],by simp +decide only [↓ aB],by simp +decide only [↓ aB,r],by simp +decide only [↓ aB],by simp +decide only [w],E,A,l⟩
 ·obtain rfl:i=a.length:=Nat.le_antisymm V F
  rw [List.drop_length,List.all_nil,Bool.and_true]at l;simp +contextual +decide (maxSteps:=1000000) only [↓ wP,wQ,wS,r,v,bP];exact M _ _ _ _ (by rw [l];exact by simp +decide only [↓ aB,q])
set_option maxHeartbeats 8000000 in
theorem XO:∀ d,Abs.Ok Tryz.prog 213 (FQ d)
 | 0=>ok2 fun a b ⟨h,_⟩=>h.elim
 | d+1=>ok2 fun a b ⟨Z,G⟩=>by
   have O:=(cJ (d+1) a Z).1;have P:=(dW b G).1;obtain ⟨_,_,st,pa,rfl,⟨f,rfl⟩,⟨n,rfl⟩,⟨s,rfl,N⟩,hp⟩:=Z;have v:=(gW (iZ (cJ d)) _ hp).2;have H:=G;obtain ⟨y,e,M⟩:=hp;obtain ⟨A,u,I⟩:=G;have R:=bV u.2;have hl:=e.2;refine aF (L:=aTr d) (elist_cons rIn5_ok.ent (elist_cons (XO d).ent aE)) aG (by kernel_rfl) Tryz.func213 Tryz.ntmps213 Tryz.results213 rfl rfl (aA O.und (aA P.und aD)) aI ?_
   have D:kH b.els (d+1) (.agg [.int .i64 f,.int .i64 n,.str s,pa])=((jJ A f n (y.length:Nat)&&decide (s=[]))&&y.all (kH A d)):=by
    rw [kH,<-u.els,show ((AV.agg [.int .i64 f,.int .i64 n,.str s,pa]).fld 3).els=y from e.els,show ((AV.agg [.int .i64 f,.int .i64 n,.str s,pa]).fld 2).txt=s from rfl];show (decide (s=[])&&(y.all (kH b.els d)&&jJ b.els f n y.length))=_;cases decide (s=[])<;>cases jJ b.els f n y.length<;>cases y.all (kH b.els d)<;>rfl
   rw [D]
   have w:=fun {Q:Ex->Env->Prop}=>aBu (f:=f) (n:=n) ⟨s,rfl,N⟩ H u.els e M _ rfl (Q:=Q)
   have r:∃ F,F=jJ A f n (y.length:Nat):=⟨_,rfl⟩
   obtain ⟨F,r⟩:=r;rw [<-r];rw [aLr]at r
   rcases (by omega:f=1∨f=2∨f=5∨f=3∨f=4∨f=6∨(f≠1/\f≠2/\f≠5/\f≠3/\f≠4/\f≠6)) with rfl | rfl | rfl | rfl | rfl | rfl | hf
   iterate 3
    ·by_cases l:((y.length:Nat):Int)=0
     ·by_cases q:n=0
      ·subst q
       rw [show F=true by rw [r];simp [l]];simp +contextual +decide (maxSteps:=1000000) only [↓ wP,wQ,tf,Nat.reduceAdd,wS,v,e.len,l]
       refine w (decide (s=[])) _ _ _ _ (by simp +decide only [↓ aB,bN,aZ]) (by simp +decide only [↓ aB]) (by simp +decide only [↓ aB]) (by rw [l];exact by simp +decide only [↓ aB]) (by simp +decide only [↓ aB]) (by simp +decide only [↓ aB]) (by omega) fun t k low o p=>?_
       simp +contextual +decide (maxSteps:=1000000) only [↓ wP,wQ,p]
      ·rw [show F=false by rw [r];simp [q]]
       simp +contextual +decide (maxSteps:=1000000) only [↓ wP,wQ,tf,Nat.reduceAdd,wS,v,e.len,l,q]
       refine w false _ _ _ _ (by simp +decide only [↓ aB,bN,aZ]) (by simp +decide only [↓ aB]) (by simp +decide only [↓ aB]) (by rw [l];exact by simp +decide only [↓ aB]) (by simp +decide only [↓ aB]) (by simp +decide only [↓ aB]) (by omega) fun t k low o p=>?_
       simp +contextual +decide (maxSteps:=1000000) only [↓ wP,wQ,wS,p]
     ·rw [show F=false by rw [r];rw [decide_eq_false l];simp]
      simp +contextual +decide (maxSteps:=1000000) only [↓ wP,wQ,tf,Nat.reduceAdd,wS,v,e.len,l]
      refine w false _ _ _ _ (by simp +decide only [↓ aB,bN,aZ]) (by simp +decide only [↓ aB]) (by simp +decide only [↓ aB]) (by simp +decide only [↓ aB]) (by simp +decide only [↓ aB]) (by simp +decide only [↓ aB]) (by omega) fun t k low o p=>?_
      simp +contextual +decide (maxSteps:=1000000) only [↓ wP,wQ,wS,p]
   ·unfold qK at r
    by_cases l:((y.length:Nat):Int)=0
    ·cases q:inR n (-1000000000) 1000000000 with
     | true=>
       rw [show F=true by rw [r];rw [decide_eq_true l];simp [q]];simp +contextual +decide (maxSteps:=1000000) only [↓ wP,wQ,tf,Nat.reduceAdd,wS,v,e.len,l,aH,q]
       refine w (decide (s=[])) _ _ _ _ (by simp +decide only [↓ aB,bN,aZ]) (by simp +decide only [↓ aB]) (by simp +decide only [↓ aB]) (by rw [l];exact by simp +decide only [↓ aB]) (by simp +decide only [↓ aB]) (by simp +decide only [↓ aB]) (by omega) fun t k low o p=>?_
       simp +contextual +decide (maxSteps:=1000000) only [↓ wP,wQ,p]
     | false=>
       rw [show F=false by rw [r];simp [q]];simp +contextual +decide (maxSteps:=1000000) only [↓ wP,wQ,tf,Nat.reduceAdd,wS,v,e.len,l,aH,q]
       refine w (false) _ _ _ _ (by simp +decide only [↓ aB,bN,aZ]) (by simp +decide only [↓ aB]) (by simp +decide only [↓ aB]) (by rw [l];exact by simp +decide only [↓ aB]) (by simp +decide only [↓ aB]) (by simp +decide only [↓ aB]) (by omega) fun t k low o p=>?_
       simp +contextual +decide (maxSteps:=1000000) only [↓ wP,wQ,wS,p]
    ·rw [show F=false by rw [r];rw [decide_eq_false l];simp]
     simp +contextual +decide (maxSteps:=1000000) only [↓ wP,wQ,tf,Nat.reduceAdd,wS,v,e.len,l]
     refine w (false) _ _ _ _ (by simp +decide only [↓ aB,bN,aZ]) (by simp +decide only [↓ aB]) (by simp +decide only [↓ aB]) (by simp +decide only [↓ aB]) (by simp +decide only [↓ aB]) (by simp +decide only [↓ aB]) (by omega) fun t k low o p=>?_
     simp +contextual +decide (maxSteps:=1000000) only [↓ wP,wQ,wS,p]
   ·skip
    by_cases l:((y.length:Nat):Int)=0
    ·cases q:inR n 0 1 with
     | true=>
       rw [show F=true by rw [r];rw [decide_eq_true l];simp [q]];simp +contextual +decide (maxSteps:=1000000) only [↓ wP,wQ,tf,Nat.reduceAdd,wS,v,e.len,l,aH,q]
       refine w (decide (s=[])) _ _ _ _ (by simp +decide only [↓ aB,bN,aZ]) (by simp +decide only [↓ aB]) (by simp +decide only [↓ aB]) (by rw [l];exact by simp +decide only [↓ aB]) (by simp +decide only [↓ aB]) (by simp +decide only [↓ aB]) (by omega) fun t k low o p=>?_
       simp +contextual +decide (maxSteps:=1000000) only [↓ wP,wQ,p]
     | false=>
       rw [show F=false by rw [r];simp [q]];simp +contextual +decide (maxSteps:=1000000) only [↓ wP,wQ,tf,Nat.reduceAdd,wS,v,e.len,l,aH,q]
       refine w (false) _ _ _ _ (by simp +decide only [↓ aB,bN,aZ]) (by simp +decide only [↓ aB]) (by simp +decide only [↓ aB]) (by rw [l];exact by simp +decide only [↓ aB]) (by simp +decide only [↓ aB]) (by simp +decide only [↓ aB]) (by omega) fun t k low o p=>?_
       simp +contextual +decide (maxSteps:=1000000) only [↓ wP,wQ,wS,p]
    ·rw [show F=false by rw [r];rw [decide_eq_false l];simp]
     simp +contextual +decide (maxSteps:=1000000) only [↓ wP,wQ,tf,Nat.reduceAdd,wS,v,e.len,l]
     refine w (false) _ _ _ _ (by simp +decide only [↓ aB,bN,aZ]) (by simp +decide only [↓ aB]) (by simp +decide only [↓ aB]) (by simp +decide only [↓ aB]) (by simp +decide only [↓ aB]) (by simp +decide only [↓ aB]) (by omega) fun t k low o p=>?_
     simp +contextual +decide (maxSteps:=1000000) only [↓ wP,wQ,wS,p]
   ·cases l:inR n 0 ((A.length:Nat)-1) with
    | false=>
      rw [show F=false by rw [r];simp [l]];simp +contextual +decide (maxSteps:=1000000) only [↓ wP,wQ,tf,Nat.reduceAdd,wS,v,e.len,u.len,R,aH,l]
      refine w (false) _ _ _ _ (by simp +decide only [↓ aB,bN,aZ]) (by simp +decide only [↓ aB]) (by simp +decide only [↓ aB]) (by simp +decide only [↓ aB]) (by simp +decide only [↓ aB]) (by simp +decide only [↓ aB]) (by omega) fun t k low o p=>?_
      simp +contextual +decide (maxSteps:=1000000) only [↓ wP,wQ,wS,p]
    | true=>
      obtain ⟨i,rfl,J⟩:∃ i:Nat,n=i/\i<A.length:=by
       simp [inR]at l;exact ⟨n.toNat,by omega,by omega⟩
      obtain ⟨x,E,hm,hg,hd,C,hw,hc⟩:=cO (fun x h=>tk_con.len h) I u.2 J;obtain ⟨_,_,rfl,⟨c,rfl,aa⟩,⟨m,rfl⟩⟩:=E
      have B:A.getD (i:Int).toNat .top=.agg [.str c,.int .i64 m]:=by simp [hg]
      rw [B,show ((AV.agg [.str c,.int .i64 m]).fld 1).num=m from rfl]at r;by_cases q:((y.length:Nat):Int)=m
      ·rw [show F=true by rw [r];rw [decide_eq_true q];simp [l]]
       simp +contextual +decide (maxSteps:=1000000) only [↓ wP,wQ,tf,Nat.reduceAdd,wS,v,e.len,u.len,u.idx,C,R,aH,l,q]
       refine w (decide (s=[])) _ _ _ _ (by simp +decide only [↓ aB,bN,aZ]) (by simp +decide only [↓ aB]) (by simp +decide only [↓ aB]) (by rw [q];exact by simp +decide only [↓ aB]) (by simp +decide only [↓ aB]) (by simp +decide only [↓ aB]) (by omega) fun t k low o p=>?_
       simp +contextual +decide (maxSteps:=1000000) only [↓ wP,wQ,p]
      ·rw [show F=false by rw [r];rw [decide_eq_false q];simp]
       simp +contextual +decide (maxSteps:=1000000) only [↓ wP,wQ,tf,Nat.reduceAdd,wS,v,e.len,u.len,u.idx,C,R,aH,l,q]
       refine w (false) _ _ _ _ (by simp +decide only [↓ aB,bN,aZ]) (by simp +decide only [↓ aB]) (by simp +decide only [↓ aB]) (by simp +decide only [↓ aB]) (by simp +decide only [↓ aB]) (by simp +decide only [↓ aB]) (by omega) fun t k low o p=>?_
       simp +contextual +decide (maxSteps:=1000000) only [↓ wP,wQ,wS,p]
   ·obtain ⟨S,T,X,U,V,Y⟩:=hf
    rw [show F=false by rw [r];simp [S,T,U,V,X,Y]];simp +contextual +decide (maxSteps:=1000000) only [↓ wP,wQ,tf,Nat.reduceAdd,wS,v,e.len,S,T,U,V,X,Y]
    refine w (false) _ _ _ _ (by simp +decide only [↓ aB,bN,aZ]) (by simp +decide only [↓ aB]) (by simp +decide only [↓ aB]) (by simp +decide only [↓ aB]) (by simp +decide only [↓ aB]) (by simp +decide only [↓ aB]) (by omega) fun t k low o p=>?_
    simp +contextual +decide (maxSteps:=1000000) only [↓ wP,wQ,wS,p]
end
end Go.Proofs.YtpmccfnfikkkbaaGreat
