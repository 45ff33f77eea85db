/-
  The references of terms and programs: names, and how many nodes patterns have; constructors.
-/
import Derived.Test.YthakciolcdlphaaGreatOa
set_option linter.unusedVariables false
set_option linter.unusedSimpArgs false
namespace Go.Proofs.YthakciolcdlphaaGreat
open Go.Abs Go Go.Abs.TryzF
noncomputable section
set_option maxRecDepth 10000
theorem rsmall_ok:Abs.Ok Tryz.prog 173 (wO eH):=yR fun a ha=>by
 obtain ⟨l,rfl,hl,hb⟩:=ha
 refine aH (L:=[]) aG aN (by kernel_rfl) Tryz.func173 Tryz.ntmps173 Tryz.results173 rfl rfl (aC mO aF) aJ ?_
 show Wk _ _ _ _ _ (gQ _ _ (fun _ r=>r=.bool (eH l)) _)
 simp +contextual +decide (maxSteps:=1000000) only [↓ wP,wQ,tf,Nat.reduceAdd,wS,reduceCtorEq]
 refine aQ (fun i e=>∃ t n low o,e=⟨20,none,173,t,[],⟨n,low,o⟩,.no⟩/\t.val 0=.str l/\t.val 3=.int .i64 (i:Nat)/\0<=n/\i<=l.length/\eH l=eH (l.drop i)) (fun i=>l.length-i) 0 ⟨_,_,_,_,rfl,by simp +decide only [↓ aA,aE,aB],by simp +decide only [↓ aA,aE,aB];rfl,by omega,Nat.zero_le _,rfl⟩ ?_
 rintro i _ ⟨t,n,low,o,rfl,t0,t3,hn,hi,hq⟩
 rcases Nat.lt_or_ge i l.length with hlt | hge
 ·have hd:l.drop i=l.getD i 0::l.drop (i+1):=by rw [List.drop_eq_getElem_cons hlt];congr 1;simp [List.getD_eq_getElem?_getD,hlt]
  rw [hd,xV]at hq
  have hc:(((i:Nat):Int)<((l.length:Nat):Int))=True:=eq_true (by omega)
  have hw:IntKind.i64.wrap ((i:Int)+1)=((i+1:Nat):Int):=by rw [IntWalk.i64_in _ (by omega)];rfl
  have hix:∀ {d:Option AV},CT (some 0) l (.int .i64 (i:Nat)) d=some (.int .u8 (l.getD i 0:Nat)):=zG (by omega) (by omega)
  generalize l.getD i 0=c at *
  by_cases c1:((c:Nat):Int)<97
  ·rw [show fY c=false by simp [fY];omega,Bool.false_and]at hq
   simp +contextual +decide (maxSteps:=1000000) only [↓ wP,wQ,tf,Nat.reduceAdd,wS,reduceCtorEq,t0,t3,hix,hc,c1,hq]
  ·by_cases c2:((c:Nat):Int) > 122
   ·rw [show fY c=false by simp [fY];omega,Bool.false_and]at hq
    simp +contextual +decide (maxSteps:=1000000) only [↓ wP,wQ,tf,Nat.reduceAdd,wS,reduceCtorEq,t0,t3,hix,hc,c1,c2,hq]
   ·rw [show fY c=true by simp [fY];omega,Bool.true_and]at hq
    simp +contextual +decide (maxSteps:=1000000) only [↓ wP,wQ,tf,Nat.reduceAdd,wS,reduceCtorEq,t0,t3,hix,hc,c1,c2,hw]
    exact ⟨i+1,by show _-_<_-_;omega,_,_,_,_,rfl,by simp +decide only [↓ aA,aE,aB,t0],by simp +decide only [↓ aA,aE,aB],by omega,hlt,hq⟩
 ·obtain rfl:i=l.length:=Nat.le_antisymm hi hge
  rw [List.drop_length]at hq
  have hc:(((l.length:Nat):Int)<((l.length:Nat):Int))=False:=eq_false (by omega)
  simp +contextual +decide (maxSteps:=1000000) only [↓ wP,wQ,tf,Nat.reduceAdd,wS,reduceCtorEq,t0,t3,hc,hq]
  rfl
theorem rgreat_ok:Abs.Ok Tryz.prog 119 (wO eI):=yR fun a ha=>by
 have ha':=ha
 obtain ⟨l,rfl,hl,hb⟩:=ha
 refine aH (L:=[ent 173 (wO eH)]) (elist_cons rsmall_ok.ent aG) aN (by kernel_rfl) Tryz.func119 Tryz.ntmps119 Tryz.results119 rfl rfl (aC mO aF) aJ ?_
 show Wk _ _ _ _ _ (gQ _ _ (fun _ r=>r=.bool (eI l)) _)
 cases l with
 | nil=>simp +contextual +decide (maxSteps:=1000000) only [↓ wP,wQ,tf,Nat.reduceAdd,wS,reduceCtorEq];rfl
 | cons c l=>
   have hc:=hb c (List.mem_cons_self ..)
   have hs:wO eH [.str l]=some (.bool (eH l)):=zA ⟨l,rfl,by simp at hl;omega,fun x hx=>hb x (List.mem_cons_of_mem _ hx)⟩
   have hg:eI (c::l)=(decide (l.length+1<=8)&&decide (65<=c)&&decide (c<=90)&&eH l):=by simp [eI]
   rw [hg]
   have hix:∀ {d:Option AV},CT (some 0) (c::l) (.int .i64 0) d=some (.int .u8 (c:Nat)):=zG (by omega) (by simp)
   have hsl:∀ {d:Option AV},tV (some 0) (c::l) (some (.int .i64 1)) none d=some (.str l):=GN (by omega) (by rw [List.length_cons];omega)
   have q0:(((l.length+1:Nat):Int) ≥ 1)=True:=eq_true (by omega)
   have q0':((1:Int)<=((l.length+1:Nat):Int))=True:=eq_true (by omega)
   have q1:(((l.length+1:Nat):Int)<=8)=(l.length+1<=8):=propext (by omega)
   have q2:(((c:Nat):Int) ≥ 65)=(65<=c):=propext (by omega)
   have q2':((65:Int)<=((c:Nat):Int))=(65<=c):=propext (by omega)
   have q3:(((c:Nat):Int)<=90)=(c<=90):=propext (by omega)
   by_cases k1:l.length+1<=8
   ·by_cases k2:65<=c
    ·by_cases k3:c<=90
     ·simp +contextual +decide (maxSteps:=1000000) only [↓ wP,wQ,tf,Nat.reduceAdd,wS,reduceCtorEq,hix,hsl,q0,q0',q1,q2,q2',q3,k1,k2,k3,hs]
     ·simp +contextual +decide (maxSteps:=1000000) only [↓ wP,wQ,tf,Nat.reduceAdd,wS,reduceCtorEq,hix,hsl,q0,q0',q1,q2,q2',q3,k1,k2,k3]
    ·simp +contextual +decide (maxSteps:=1000000) only [↓ wP,wQ,tf,Nat.reduceAdd,wS,reduceCtorEq,hix,hsl,q0,q0',q1,q2,q2',k1,k2]
   ·simp +contextual +decide (maxSteps:=1000000) only [↓ wP,wQ,tf,Nat.reduceAdd,wS,reduceCtorEq,q0,q0',q1,k1]
abbrev aEi:List AV->Option AV:=wW (fun a b=>YU a/\qG b) fun a b=>.bool (a.els.any fun x=>decide (x.txt=b.txt))
theorem has_ok:Abs.Ok Tryz.prog 87 aEi:=ok2 fun a b ⟨ha,hb⟩=>by
 have hua:=(iH (AZ tu_str) a ha).1
 obtain ⟨s,rfl,hs0⟩:=hb
 obtain ⟨xs,hs,hxs⟩:=ha
 have hl:=hs.2
 refine aH (L:=[]) aG aN (by kernel_rfl) Tryz.func87 Tryz.ntmps87 Tryz.results87 rfl rfl (aC hua.und (aC mO aF)) aJ ?_
 rw [hs.els,show (AV.str s).txt=s from rfl]
 simp +contextual +decide (maxSteps:=1000000) only [↓ wP,wQ,tf,Nat.reduceAdd,wS,reduceCtorEq]
 refine aQ (fun i e=>∃ t n low o,e=⟨18,none,87,t,[],⟨n,low,o⟩,.no⟩/\t.val 0=a/\t.val 1=.str s/\t.val 5=.int .i64 (i:Nat)/\0<=n/\i<=xs.length/\(xs.any fun x=>decide (x.txt=s))=((xs.drop i).any fun x=>decide (x.txt=s))) (fun i=>xs.length-i) 0 ⟨_,_,_,_,rfl,by simp +decide only [↓ aA,aE,aB],by simp +decide only [↓ aA,aE,aB],by simp +decide only [↓ aA,aE,aB];rfl,by omega,Nat.zero_le _,rfl⟩ ?_
 rintro i _ ⟨t,n,low,o,rfl,t0,t1,t5,hn,hi,hq⟩
 rcases Nat.lt_or_ge i xs.length with hlt | hge
 ·obtain ⟨y,hDy,hm,hg,hd,hix,hw,hc⟩:=bK (fun x h=>tu_str.len h) hxs hl hlt
  rw [hd,List.any_cons]at hq
  have hpf:=fun {d:Option AV}=>tu_str.pf hDy (d:=d)
  obtain ⟨z,rfl,_⟩:=hDy
  by_cases hz:z=s
  ·rw [show (AV.str z).txt=z from rfl,decide_eq_true hz,Bool.true_or]at hq
   simp +contextual +decide (maxSteps:=1000000) only [↓ wP,wQ,tf,Nat.reduceAdd,wS,reduceCtorEq,t0,t1,t5,hs.len,hs.idx,hix,hc,hpf,hz,hq]
  ·rw [show (AV.str z).txt=z from rfl,decide_eq_false hz,Bool.false_or]at hq
   simp +contextual +decide (maxSteps:=1000000) only [↓ wP,wQ,tf,Nat.reduceAdd,wS,reduceCtorEq,t0,t1,t5,hs.len,hs.idx,hix,hc,hpf,hz,hw]
   exact ⟨i+1,by show _-_<_-_;omega,_,_,_,_,rfl,by simp +decide only [↓ aA,aE,aB,t0],by simp +decide only [↓ aA,aE,aB,t1],by simp +decide only [↓ aA,aE,aB],by omega,hlt,hq⟩
 ·obtain rfl:i=xs.length:=Nat.le_antisymm hi hge
  rw [List.drop_length,List.any_nil]at hq
  simp +contextual +decide (maxSteps:=1000000) only [↓ wP,wQ,tf,Nat.reduceAdd,wS,reduceCtorEq,t0,t1,t5,hs.len,bG,hq]
def jU:List AV->List AV->Bool
 | _,[]=>true
 | pre,x::l=>!(pre.any fun y=>decide (y.txt=x.txt))&&jU (pre++[x]) l
abbrev YH:List AV->Option AV:=tB YU fun a=>.bool (jU [] a.els)
set_option maxHeartbeats 1000000 in
theorem MV:Abs.Ok Tryz.prog 85 YH:=yR fun a ha=>by
 have hua:=(iH (AZ tu_str) a ha).1
 obtain ⟨xs,hs,hxs⟩:=ha
 have hl:=hs.2
 refine aH (L:=[ent 87 aEi]) (elist_cons has_ok.ent aG) (fun r=>(bif Nat.beq r 4 then [7] else [],[])) (by kernel_rfl) Tryz.func85 Tryz.ntmps85 Tryz.results85 rfl rfl (aC hua.und aF) aJ ?_
 rw [hs.els]
 simp +contextual +decide (maxSteps:=1000000) only [↓ wP,wQ,tf,Nat.reduceAdd,wS,reduceCtorEq]
 refine aQ (fun i e=>∃ t n low o,e=⟨18,none,85,t,[],⟨n,low,o⟩,.no⟩/\t.val 0=a/\t.val 3=.int .i64 (i:Nat)/\0<=n/\i<=xs.length/\jU [] xs=jU (xs.take i) (xs.drop i)) (fun i=>xs.length-i) 0 ⟨_,_,_,_,rfl,by simp +decide only [↓ aA,aE,aB],by simp +decide only [↓ aA,aE,aB];rfl,by omega,Nat.zero_le _,rfl⟩ ?_
 rintro i _ ⟨t,n,low,o,rfl,t0,t3,hn,hi,hq⟩
 rcases Nat.lt_or_ge i xs.length with hlt | hge
 ·obtain ⟨y,hDy,hm,hg,hd,hix,hw,hc⟩:=bK (fun x h=>tu_str.len h) hxs hl hlt
  have hpf:=fun {d:Option AV}=>tu_str.pf hDy (d:=d)
  obtain ⟨b,hb,hsl⟩:=hs.upto (k:=1) (fun x hm=>tu_str.len (hxs x hm)) (n:=((i:Nat):Int)) (by omega) (by omega)
  rw [Int.toNat_natCast]at hb
  have htk:xs.take (i+1)=xs.take i++[y]:=by rw [List.take_add_one,hg];rfl
  have hli:aEi [b,y]=some (.bool ((xs.take i).any fun x=>decide (x.txt=y.txt))):=by
   rw [aEi,sg2_eq ⟨⟨_,hb,fun x hx=>hxs x (List.mem_of_mem_take hx)⟩,hDy⟩,hb.els]
  rw [hd,jU,<-htk]at hq
  obtain ⟨z,rfl,_⟩:=hDy
  cases k3:(xs.take i).any fun x=>decide (x.txt=(AV.str z).txt) with
  | true=>
    rw [k3,Bool.not_true,Bool.false_and]at hq
    rw [k3]at hli
    simp +contextual +decide (maxSteps:=1000000) only [↓ wP,wQ,tf,Nat.reduceAdd,wS,reduceCtorEq,t0,t3,hs.len,hs.idx,hix,hc,hpf,hsl,hli,hq]
  | false=>
    rw [k3,Bool.not_false,Bool.true_and]at hq
    rw [k3]at hli
    simp +contextual +decide (maxSteps:=1000000) only [↓ wP,wQ,tf,Nat.reduceAdd,wS,reduceCtorEq,t0,t3,hs.len,hs.idx,hix,hc,hpf,hsl,hli,hw]
    exact ⟨i+1,by show _-_<_-_;omega,_,_,_,_,rfl,by simp +decide only [↓ aA,aE,aB,t0],by simp +decide only [↓ aA,aE,aB],by omega,hlt,hq⟩
 ·obtain rfl:i=xs.length:=Nat.le_antisymm hi hge
  rw [List.drop_length,jU]at hq
  simp +contextual +decide (maxSteps:=1000000) only [↓ wP,wQ,tf,Nat.reduceAdd,wS,reduceCtorEq,t0,t3,hs.len,bG,hq]
def wL (f:AV->Int->Int):List AV->Int->Int
 | [],left=>left
 | q::l,left=>if 0<=left then wL f l (f q left) else left
def wN:Nat->AV->Int->Int
 | 0,_,_=>0
 | d+1,a,left=>if left<1 then -1 else wL (wN d) (a.fld 3).els (left-1)
theorem YI {f:AV->Int->Int} {c:AV->Nat}:∀ (l:List AV) (left:Int),(∀ q∈l,1<=c q/\∀ m,-1<=m->f q m=if (c q:Int)<=m then m-c q else -1)->-1<=left->wL f l left=if (((l.map c).sum:Nat):Int)<=left then left-((l.map c).sum:Nat) else -1
 | [],left,_,h=>by
   simp only [wL,List.map_nil,List.sum_nil]
   by_cases h0:0<=left
   ·simp [h0]
   ·have:left=-1:=by omega
    simp [this]
 | q::l,left,hf,h=>by
   obtain ⟨h1,h2⟩:=hf q (List.mem_cons_self ..)
   simp only [wL,List.map_cons,List.sum_cons]
   by_cases h0:0<=left
   ·rw [if_pos h0,h2 _ (by omega)]
    by_cases h3:((c q:Nat):Int)<=left
    ·rw [if_pos h3,YI l _ (fun q hq=>hf q (List.mem_cons_of_mem _ hq)) (by omega)]
     split<;>split<;>omega
    ·rw [if_neg h3,YI l _ (fun q hq=>hf q (List.mem_cons_of_mem _ hq)) (by omega)]
     split<;>split<;>omega
   ·rw [if_neg h0,if_neg (by omega)];omega
theorem QJ:∀ (d:Nat) (a:AV) (left:Int),TPatN d a->-1<=left->wN d a left=if ((nT d a:Nat):Int)<=left then left-nT d a else -1
 | 0,_,_,h,_=>h.elim
 | d+1,a,left,h,h0=>by
   obtain ⟨x,y,z,u,rfl,_,_,_,xs,hs,hx⟩:=h
   have hu:((AV.agg [x,y,z,u]).fld 3).els=xs:=hs.els
   simp only [wN,nT,hu]
   by_cases h1:left<1
   ·rw [if_pos h1,if_neg (by omega)]
   ·rw [if_neg h1,YI (c:=nT d) xs _ (fun q hq=>⟨AH (hx q hq),fun m hm=>QJ d q m (hx q hq) hm⟩) (by omega)]
    split<;>split<;>omega
theorem aMi {d:Nat} {a:AV} {left:Int} (h:TPatN d a) (h0:-1<=left):-1<=wN d a left/\(wN d a left<=left∨wN d a left=-1):=by
 have:=QJ d a left h h0
 split at this<;>omega
abbrev tO (d:Nat):List AV->Option AV:=wW (fun a b=>TPatN d a/\∃ m,b=.int .i64 m/\-1<=m/\m<=1000) fun a b=>.int .i64 (wN d a b.num)
set_option maxHeartbeats 2000000 in
theorem AC:∀ d,Abs.Ok Tryz.prog 76 (tO d)
 | 0=>ok2 fun a b ⟨h,_⟩=>h.elim
 | d+1=>ok2 fun a b ⟨ha,left,e,h0,h1⟩=>by
   subst e
   have hua:=(bZ (d+1) a ha).1
   obtain ⟨_,_,st,pa,rfl,⟨f,rfl⟩,⟨n,rfl⟩,hst,hp⟩:=ha
   have cs:=(tu_str _ hst).2
   have cp:=(iH (jE (bZ d)) _ hp).2
   obtain ⟨xs,hs,hxs⟩:=hp
   have hl:=hs.2
   refine aH (L:=[ent 76 (tO d)]) (elist_cons (AC d).ent aG) aN (by kernel_rfl) Tryz.func76 Tryz.ntmps76 Tryz.results76 rfl rfl (aC hua.und (aC aT aF)) aT ?_
   have hsp:wN (d+1) (.agg [.int .i64 f,.int .i64 n,st,pa]) left=if left<1 then -1 else wL (wN d) xs (left-1):=by
    rw [wN,show ((AV.agg [.int .i64 f,.int .i64 n,st,pa]).fld 3).els=xs from hs.els]
   show Wk _ _ _ _ _ (gQ _ _ (fun _ r=>r=.int .i64 (wN (d+1) (.agg [.int .i64 f,.int .i64 n,st,pa]) left)) _)
   generalize wN (d+1) (.agg [.int .i64 f,.int .i64 n,st,pa]) left=W at *
   by_cases k0:left<1
   ·rw [if_pos k0]at hsp
    simp +contextual +decide (maxSteps:=1000000) only [↓ wP,wQ,tf,Nat.reduceAdd,wS,reduceCtorEq,cs,cp,k0,hsp]
   rw [if_neg k0]at hsp
   have w0:IntKind.i64.wrap (left-1)=left-1:=IntWalk.i64_in _ (by omega)
   simp +contextual +decide (maxSteps:=1000000) only [↓ wP,wQ,tf,Nat.reduceAdd,wS,reduceCtorEq,cs,cp,k0,w0]
   refine aQ (fun i e=>∃ t k low o m,e=⟨29,none,76,t,[],⟨k,low,o⟩,.no⟩/\t.val 1=.int .i64 m/\t.val 2=.ptr 0 0 0/\t.val 5=.int .i64 (i:Nat)/\o.get 0=some (aU 0 [.int .i64 f,.int .i64 n,st,pa])/\1<=k/\i<=xs.length/\-1<=m/\m<=1000/\W=wL (wN d) (xs.drop i) m) (fun i=>xs.length-i) 0
    ⟨_,_,_,_,left-1,rfl,by simp +decide only [↓ aA,aE,aB],by simp +decide only [↓ aA,aE,aB],by simp +decide only [↓ aA,aE,aB];rfl,by simp +decide only [↓ aA,aL,aB,ne_eq],by omega,Nat.zero_le _,by omega,by omega,hsp⟩ ?_
   rintro i _ ⟨t,k,low,o,m,rfl,t1,t2,t5,g0,hk,hi,hm1,hm2,hq⟩
   have f0:=eY (show 0<k by omega)
   rcases Nat.lt_or_ge i xs.length with hlt | hge
   ·obtain ⟨x,hDx,hm,hg,hd,hix,hw,hc⟩:=bK (fun x h=>(bZ d).len h) hxs hl hlt
    have hpf:=fun {d':Option AV}=>(bZ d).pf hDx (d:=d')
    rw [hd,wL]at hq
    by_cases k1:0<=m
    ·rw [if_pos k1]at hq
     have hb:=aMi hDx hm1
     have he:tO d [x,.int .i64 m]=some (.int .i64 (wN d x m)):=sg2_eq ⟨hDx,_,rfl,hm1,hm2⟩
     have k1':(m ≥ 0)=True:=eq_true k1
     simp +contextual +decide (maxSteps:=1000000) only [↓ wP,wQ,tf,Nat.reduceAdd,wS,reduceCtorEq,t1,t2,t5,g0,f0,cs,cp,hs.len,hs.idx,hix,hc,hpf,k1,k1',he,hw]
     exact ⟨i+1,by show _-_<_-_;omega,_,_,_,_,_,rfl,by simp +decide only [↓ aA,aE,aB],by simp +decide only [↓ aA,aE,aB,t2],by simp +decide only [↓ aA,aE,aB],by simp +decide only [↓ aA,aL,aB,ne_eq,g0,f0],hk,hlt,by omega,by omega,hq⟩
    ·rw [if_neg k1]at hq
     have k1':(m ≥ 0)=False:=eq_false k1
     simp +contextual +decide (maxSteps:=1000000) only [↓ wP,wQ,tf,Nat.reduceAdd,wS,reduceCtorEq,t1,t2,t5,g0,f0,cs,cp,hs.len,hc,k1,k1',hq]
   ·obtain rfl:i=xs.length:=Nat.le_antisymm hi hge
    rw [List.drop_length,wL]at hq
    simp +contextual +decide (maxSteps:=1000000) only [↓ wP,wQ,tf,Nat.reduceAdd,wS,reduceCtorEq,t1,t2,t5,g0,f0,cs,cp,hs.len,bG,hq]
theorem rIn5_ok:Abs.Ok Tryz.prog 65 eZ:=by
 intro args v hg
 unfold eZ at hg
 split at hg<;>cases hg
 rename_i n l h
 refine aH (L:=[]) aG aN (by kernel_rfl) Tryz.func65 Tryz.ntmps65 Tryz.results65 rfl rfl (aC aT (aC aT (aC aT aF))) aJ ?_
 by_cases h1:l<=n
 ·simp +contextual +decide (maxSteps:=1000000) only [↓ wP,wQ,tf,Nat.reduceAdd,wS,reduceCtorEq,h1]
  simp [inR,h1]
 ·simp +contextual +decide (maxSteps:=1000000) only [↓ wP,wQ,tf,Nat.reduceAdd,wS,reduceCtorEq,h1]
  simp [inR,h1]
def qQ (cs:List AV):Bool:=cs.all qR&&(decide ((cs.length:Int)<=20)&&jU [] (cs.map (AV.fld 0)))
abbrev MW:List AV->Option AV:=tB (fun a=>qB a/\a.els.length<=1000) fun a=>.bool (qQ a.els)
set_option maxHeartbeats 4000000 in
theorem rcons_ok:Abs.Ok Tryz.prog 66 MW:=yR fun a ⟨ha,hlen⟩=>by
 have hua:=(dT a ha).1
 obtain ⟨xs,hs,hxs⟩:=ha
 rw [hs.els]at hlen ⊢
 have hl:=hs.2
 have hstr:∀ x∈xs.map (AV.fld 0),qG x:=fun x hx=>by
  obtain ⟨y,hy,rfl⟩:=List.mem_map.1 hx
  obtain ⟨_,_,rfl,h1,_⟩:=hxs y hy
  exact h1
 have hsl:Sl (fD (xs.map (AV.fld 0))) (xs.map (AV.fld 0)):=uO (by simp;omega)
 have hD:∀ args s,(∃ v,args=[v]/\AccV v s.n s.o (xs.map (AV.fld 0)))->bH Tryz.prog 85 args s (.ret (.bool (jU [] (xs.map (AV.fld 0)))) none):=fun args s ⟨v,e,hv⟩=>by
  subst e
  have h:=MV [fD (xs.map (AV.fld 0))] _ (cR ⟨_,hsl,hstr⟩)
  rw [hsl.els]at h
  obtain ⟨n,low,o⟩:=s
  exact oY h lP ⟨AccV.frz hv (fun x hx=>(tu_str x (hstr x hx)).2) fun x hx=>(tu_str x (hstr x hx)).1.und,trivial⟩
 refine aH (L:=[ent 119 (wO eI),ent 65 eZ,entB 85 (fun args s=>∃ v,args=[v]/\AccV v s.n s.o (xs.map (AV.fld 0))) fun _=>.bool (jU [] (xs.map (AV.fld 0)))]) (elist_cons rgreat_ok.ent (elist_cons rIn5_ok.ent (elist_cons (entB_ok hD) aG))) aN (by kernel_rfl) Tryz.func66 Tryz.ntmps66 Tryz.results66 rfl rfl (aC hua.und aF) aJ ?_
 have hsp:qQ xs=(xs.all qR&&(decide ((xs.length:Int)<=20)&&jU [] (xs.map (AV.fld 0)))):=rfl
 generalize qQ xs=W at *
 simp +contextual +decide (maxSteps:=1000000) only [↓ wP,wQ,tf,Nat.reduceAdd,wS,reduceCtorEq]
 refine aQ (fun i e=>∃ t n low o v,e=⟨42,none,66,t,[],⟨n,low,o⟩,.no⟩/\t.val 0=a/\t.val 3=v/\t.val 4=.int .i64 (i:Nat)/\i<=xs.length/\AccV v n o ((xs.take i).map (AV.fld 0))/\W=((xs.drop i).all qR&&(decide ((xs.length:Int)<=20)&&jU [] (xs.map (AV.fld 0))))) (fun i=>xs.length-i) 0
  ⟨_,_,_,_,_,rfl,by simp +decide only [↓ aA,aE,aB],by simp +decide only [↓ aA,aE,aB],by simp +decide only [↓ aA,aE,aB];rfl,Nat.zero_le _,.inl ⟨rfl,rfl⟩,hsp⟩ ?_
 rintro i _ ⟨t,n,low,o,v,rfl,t0,t3,t4,hi,hacc,hq⟩
 rcases Nat.lt_or_ge i xs.length with hlt | hge
 ·obtain ⟨x,hDx,hm,hg,hd,hix,hw,hc⟩:=bK (fun x h=>tk_con.len h) hxs hl hlt
  have htk:(xs.take (i+1)).map (AV.fld 0)=(xs.take i).map (AV.fld 0)++[x.fld 0]:=by rw [List.take_add_one,hg];simp
  rw [hd,List.all_cons,Bool.and_assoc]at hq
  obtain ⟨_,_,rfl,⟨s,rfl,hs'⟩,⟨m,rfl⟩⟩:=hDx
  have hgr:wO eI [.str s]=some (.bool (eI s)):=zA ⟨s,rfl,hs'⟩
  rw [show qR (.agg [.str s,.int .i64 m])=(eI s&&inR m 0 3) from rfl]at hq
  rw [show (AV.agg [.str s,.int .i64 m]).fld 0=.str s from rfl]at htk
  have hsmall:(2*(((xs.take i).map (AV.fld 0)).length+1)+1024)*16<=281474976710656/\((xs.take i).map (AV.fld 0)).length+1<4611686018427387904:=by simp;omega
  cases k1:eI s with
  | false=>
    rw [k1,Bool.false_and,Bool.false_and]at hq
    simp +contextual +decide (maxSteps:=1000000) only [↓ wP,wQ,tf,Nat.reduceAdd,wS,reduceCtorEq,t0,t3,t4,hs.len,hs.idx,hix,hc,hgr,k1,hq]
  | true=>
    cases k2:inR m 0 3 with
    | false=>
      rw [k1,k2,Bool.and_false,Bool.false_and]at hq
      simp +contextual +decide (maxSteps:=1000000) only [↓ wP,wQ,tf,Nat.reduceAdd,wS,reduceCtorEq,t0,t3,t4,hs.len,hs.idx,hix,hc,hgr,aI,k1,k2,hq]
    | true=>
      rw [k1,k2,Bool.and_true,Bool.true_and]at hq
      generalize (xs.take i).map (AV.fld 0)=L at *
      rcases hacc with ⟨hL,rfl⟩ | ⟨hL,id,g,rfl,hid,hidn⟩
      ·simp +contextual +decide (maxSteps:=1000000) only [↓ wP,wQ,tf,Nat.reduceAdd,wS,reduceCtorEq,t0,t3,t4,hs.len,hs.idx,hix,hc,hgr,aI,k1,k2,cG,hw,Nat.reduceMul]
       refine ⟨i+1,by show _-_<_-_;omega,_,_,_,_,_,rfl,by simp +decide only [↓ aA,aE,aB,t0],by simp +decide only [↓ aA,aE,aB];rfl,by simp +decide only [↓ aA,aE,aB],hlt,?_,hq⟩
       rw [htk,hL]
       exact AccV.new (g:=0) (m:=1) (by simp +decide only [↓ aA,aL,aB,ne_eq,cG]) rfl (by simp) (by omega)
      ·have f3:=eY hidn
       simp +contextual +decide (maxSteps:=1000000) only [↓ wP,wQ,tf,Nat.reduceAdd,wS,reduceCtorEq,t0,t3,t4,hs.len,hs.idx,hix,hc,hgr,aI,k1,k2,cG,f3,hid,hsmall,hw,Nat.reduceMul,Nat.mul_one,Nat.zero_add]
       refine ⟨i+1,by show _-_<_-_;omega,_,_,_,_,_,rfl,by simp +decide only [↓ aA,aE,aB,t0],by simp +decide only [↓ aA,aE,aB];rfl,by simp +decide only [↓ aA,aE,aB],hlt,?_,hq⟩
       rw [htk]
       exact AccV.new (g:=g+1) (by simp +decide only [↓ aA,aL,aB,ne_eq,cG,f3]) (by simp) (by simp) (by omega)
 ·obtain rfl:i=xs.length:=Nat.le_antisymm hi hge
  rw [List.take_length]at hacc
  rw [List.drop_length,List.all_nil,Bool.true_and]at hq
  have he:∀ {low:Nat},orcL [entB 85 (fun args s=>∃ v,args=[v]/\AccV v s.n s.o (xs.map (AV.fld 0))) fun _=>.bool (jU [] (xs.map (AV.fld 0)))] 85 [v] ⟨n,low,o⟩=some (.ret (.bool (jU [] (xs.map (AV.fld 0)))) none):=fun {low}=>gZ ⟨v,rfl,hacc⟩
  by_cases k1:((xs.length:Nat):Int)<=20
  ·rw [decide_eq_true k1,Bool.true_and]at hq
   simp +contextual +decide (maxSteps:=1000000) only [↓ wP,wQ,tf,Nat.reduceAdd,wS,reduceCtorEq,t0,t3,t4,hs.len,bG,k1,he,hq]
  ·rw [decide_eq_false k1,Bool.false_and]at hq
   simp +contextual +decide (maxSteps:=1000000) only [↓ wP,wQ,tf,Nat.reduceAdd,wS,reduceCtorEq,t0,t3,t4,hs.len,bG,k1,hq]
theorem aEj {cs:List AV} {f n k:Int}:gW cs f n k=(
 if f=1 then decide (n=0)&&decide (k=0) else if f=2 then decide (n=0)&&decide (k=0) else if f=5 then decide (n=0)&&decide (k=0)
 else if f=3 then nZ n&&decide (k=0) else if f=4 then inR n 0 1&&decide (k=0)
 else if f=6 then inR n 0 ((cs.length:Int)-1)&&decide (k=((cs.getD n.toNat .top).fld 1).num) else false):=rfl
abbrev AE (d:Nat):List AV->Option AV:=wW (fun a b=>TPatN d a/\qB b) fun a b=>.bool (iE b.els d a)
def xU:Code->Option Code
 | .seq a b=>match xU a with
   | some l=>some l
   | none=>xU b
 | .cond _ a b=>match xU a with
   | some l=>some l
   | none=>xU b
 | .block _ a=>xU a
 | .scope a=>xU a
 | .loop a=>some (.loop a)
 | _=>none
abbrev aMj (d:Nat):List kL:=[ent 65 eZ,ent 120 (AE d)]
set_option maxHeartbeats 2000000 in
theorem TL {d:Nat} {b pa:AV} {xp xc:List AV} {f n:Int} {s:List Nat} (hst:qG (.str s)) (hb:qB b) (hsc:b.els=xc) (hsp:Sl pa xp) (hpx:∀ x∈xp,TPatN d x) (lc:Code) (hlc:xU ((Tryz.f120).body.getD .skip)=some lc) {Q:Ex->Env->Prop}
 (c:Bool) (t:Tr AV) (k low:Nat) (o:Tr AObj) (t1:t.val 1=b) (t2:t.val 2=.ptr 0 0 0) (t5:t.val 5=.bool c) (t6:t.val 6=.int .i64 (xp.length:Nat)) (t7:t.val 7=.int .i64 0) (g0:o.get 0=some (aU 0 [.int .i64 f,.int .i64 n,.str s,pa])) (hk:1<=k)
 (hQ:∀ t k low o,t.val 5=.bool (c&&xp.all (iE xc d))->Q (.exit 1) ⟨82,none,120,t,[],⟨k,low,o⟩,.no⟩):Wk Tryz.prog (orcL (aMj d)) aN lc ⟨82,none,120,t,[],⟨k,low,o⟩,.no⟩ Q:=by
 cases hlc
 have cp:=hsp.cell
 have hl:=hsp.2
 have hq0:(c&&xp.all (iE xc d))=(c&&(xp.drop 0).all (iE xc d)):=rfl
 generalize (c&&xp.all (iE xc d))=W at *
 refine aQ (fun i e=>∃ t k low o m,e=⟨82,none,120,t,[],⟨k,low,o⟩,.no⟩/\t.val 1=b/\t.val 2=.ptr 0 0 0/\t.val 5=.bool m/\t.val 6=.int .i64 (xp.length:Nat)/\t.val 7=.int .i64 (i:Nat)/\o.get 0=some (aU 0 [.int .i64 f,.int .i64 n,.str s,pa])/\1<=k/\i<=xp.length/\W=(m&&(xp.drop i).all (iE xc d))) (fun i=>xp.length-i) 0
  ⟨t,k,low,o,c,rfl,t1,t2,t5,t6,t7,g0,hk,Nat.zero_le _,hq0⟩ ?_
 clear t1 t2 t5 t6 t7 g0 hk hq0
 rintro i _ ⟨t,k,low,o,m,rfl,t1,t2,t5,t6,t7,g0,hk,hi,hq⟩
 have f0:=eY (show 0<k by omega)
 rcases Nat.lt_or_ge i xp.length with hlt | hge
 ·obtain ⟨x,hDx,hm,hg,hd,hix,hw,hc⟩:=bK (fun x h=>(bZ d).len h) hpx hl hlt
  have hpf:=fun {d':Option AV}=>(bZ d).pf hDx (d:=d')
  rw [hd,List.all_cons]at hq
  cases m with
  | false=>
    rw [Bool.false_and]at hq
    simp +contextual +decide (maxSteps:=1000000) only [↓ wP,wQ,tf,Nat.reduceAdd,wS,reduceCtorEq,t1,t2,t5,t6,t7,hc]
    exact hQ _ _ _ _ (by rw [hq];exact by simp +decide only [↓ aA,aE,aB,t5])
  | true=>
    have he:AE d [x,b]=some (.bool (iE xc d x)):=by rw [AE,sg2_eq ⟨hDx,hb⟩,hsc]
    rw [Bool.true_and]at hq
    simp +contextual +decide (maxSteps:=1000000) only [↓ wP,wQ,tf,Nat.reduceAdd,wS,reduceCtorEq,t1,t2,t5,t6,t7,g0,f0,cp,hsp.idx,hix,hc,hpf,he,hw]
    exact ⟨i+1,by show _-_<_-_;omega,_,_,_,_,_,rfl,by simp +decide only [↓ aA,aE,aB,t1],by simp +decide only [↓ aA,aE,aB,t2],by simp +decide only [↓ aA,aE,aB],by simp +decide only [↓ aA,aE,aB,t6],by simp +decide only [↓ aA,aE,aB],by simp +decide only [↓ aA,aL,aB,ne_eq,g0,f0],hk,hlt,hq⟩
 ·obtain rfl:i=xp.length:=Nat.le_antisymm hi hge
  rw [List.drop_length,List.all_nil,Bool.and_true]at hq
  simp +contextual +decide (maxSteps:=1000000) only [↓ wP,wQ,tf,Nat.reduceAdd,wS,reduceCtorEq,t1,t2,t5,t6,t7,bG]
  exact hQ _ _ _ _ (by rw [hq];exact by simp +decide only [↓ aA,aE,aB,t5])
set_option maxHeartbeats 8000000 in
theorem QK:∀ d,Abs.Ok Tryz.prog 120 (AE d)
 | 0=>ok2 fun a b ⟨h,_⟩=>h.elim
 | d+1=>ok2 fun a b ⟨ha,hb⟩=>by
   have hua:=(bZ (d+1) a ha).1
   have hub:=(dT b hb).1
   obtain ⟨_,_,st,pa,rfl,⟨f,rfl⟩,⟨n,rfl⟩,⟨s,rfl,hst⟩,hp⟩:=ha
   have cp:=(iH (jE (bZ d)) _ hp).2
   have hb0:=hb
   obtain ⟨xp,hsp,hpx⟩:=hp
   obtain ⟨xc,hsc,hcx⟩:=hb
   have w1:=bT hsc.2
   have hl:=hsp.2
   refine aH (L:=aMj d) (elist_cons rIn5_ok.ent (elist_cons (QK d).ent aG)) aN (by kernel_rfl) Tryz.func120 Tryz.ntmps120 Tryz.results120 rfl rfl (aC hua.und (aC hub.und aF)) aJ ?_
   have hpat:iE b.els (d+1) (.agg [.int .i64 f,.int .i64 n,.str s,pa])=((gW xc f n (xp.length:Nat)&&decide (s=[]))&&xp.all (iE xc d)):=by
    rw [iE,<-hsc.els,show ((AV.agg [.int .i64 f,.int .i64 n,.str s,pa]).fld 3).els=xp from hsp.els,show ((AV.agg [.int .i64 f,.int .i64 n,.str s,pa]).fld 2).txt=s from rfl]
    show (decide (s=[])&&(xp.all (iE b.els d)&&gW b.els f n xp.length))=_
    cases decide (s=[])<;>cases gW b.els f n xp.length<;>cases xp.all (iE b.els d)<;>rfl
   rw [hpat]
   have lp:=fun {Q:Ex->Env->Prop}=>TL (f:=f) (n:=n) ⟨s,rfl,hst⟩ hb0 hsc.els hsp hpx _ rfl (Q:=Q)
   have hF:∃ F,F=gW xc f n (xp.length:Nat):=⟨_,rfl⟩
   obtain ⟨F,hF⟩:=hF
   rw [<-hF]
   rw [aEj]at hF
   rcases (by omega:f=1∨f=2∨f=5∨f=3∨f=4∨f=6∨(f≠1/\f≠2/\f≠5/\f≠3/\f≠4/\f≠6)) with rfl | rfl | rfl | rfl | rfl | rfl | hf
   iterate 3
    ·by_cases g1:((xp.length:Nat):Int)=0
     ·by_cases g2:n=0
      ·subst g2
       rw [show F=true by rw [hF];simp [g1]]
       simp +contextual +decide (maxSteps:=1000000) only [↓ wP,wQ,tf,Nat.reduceAdd,wS,reduceCtorEq,cp,hsp.len,g1]
       refine lp (decide (s=[])) _ _ _ _ (by simp +decide only [↓ aA,aE,aB]) (by simp +decide only [↓ aA,aE,aB]) (by simp +decide only [↓ aA,aE,aB]) (by rw [g1];exact by simp +decide only [↓ aA,aE,aB]) (by simp +decide only [↓ aA,aE,aB]) (by simp +decide only [↓ aA,aL,aB,ne_eq]) (by omega) fun t k low o t5=>?_
       simp +contextual +decide (maxSteps:=1000000) only [↓ wP,wQ,tf,Nat.reduceAdd,wS,reduceCtorEq,t5]
      ·rw [show F=false by rw [hF];simp [g2]]
       simp +contextual +decide (maxSteps:=1000000) only [↓ wP,wQ,tf,Nat.reduceAdd,wS,reduceCtorEq,cp,hsp.len,g1,g2]
       refine lp false _ _ _ _ (by simp +decide only [↓ aA,aE,aB]) (by simp +decide only [↓ aA,aE,aB]) (by simp +decide only [↓ aA,aE,aB]) (by rw [g1];exact by simp +decide only [↓ aA,aE,aB]) (by simp +decide only [↓ aA,aE,aB]) (by simp +decide only [↓ aA,aL,aB,ne_eq]) (by omega) fun t k low o t5=>?_
       simp +contextual +decide (maxSteps:=1000000) only [↓ wP,wQ,tf,Nat.reduceAdd,wS,reduceCtorEq,t5]
     ·rw [show F=false by rw [hF];rw [decide_eq_false g1];simp]
      simp +contextual +decide (maxSteps:=1000000) only [↓ wP,wQ,tf,Nat.reduceAdd,wS,reduceCtorEq,cp,hsp.len,g1]
      refine lp false _ _ _ _ (by simp +decide only [↓ aA,aE,aB]) (by simp +decide only [↓ aA,aE,aB]) (by simp +decide only [↓ aA,aE,aB]) (by simp +decide only [↓ aA,aE,aB]) (by simp +decide only [↓ aA,aE,aB]) (by simp +decide only [↓ aA,aL,aB,ne_eq]) (by omega) fun t k low o t5=>?_
      simp +contextual +decide (maxSteps:=1000000) only [↓ wP,wQ,tf,Nat.reduceAdd,wS,reduceCtorEq,t5]
   ·unfold nZ at hF
    by_cases g1:((xp.length:Nat):Int)=0
    ·cases g2:inR n (-1000000000) 1000000000 with
     | true=>
       rw [show F=true by rw [hF];rw [decide_eq_true g1];simp [g2]]
       simp +contextual +decide (maxSteps:=1000000) only [↓ wP,wQ,tf,Nat.reduceAdd,wS,reduceCtorEq,cp,hsp.len,g1,aI,g2]
       refine lp (decide (s=[])) _ _ _ _ (by simp +decide only [↓ aA,aE,aB]) (by simp +decide only [↓ aA,aE,aB]) (by simp +decide only [↓ aA,aE,aB]) (by rw [g1];exact by simp +decide only [↓ aA,aE,aB]) (by simp +decide only [↓ aA,aE,aB]) (by simp +decide only [↓ aA,aL,aB,ne_eq]) (by omega) fun t k low o t5=>?_
       simp +contextual +decide (maxSteps:=1000000) only [↓ wP,wQ,tf,Nat.reduceAdd,wS,reduceCtorEq,t5]
     | false=>
       rw [show F=false by rw [hF];simp [g2]]
       simp +contextual +decide (maxSteps:=1000000) only [↓ wP,wQ,tf,Nat.reduceAdd,wS,reduceCtorEq,cp,hsp.len,g1,aI,g2]
       refine lp (false) _ _ _ _ (by simp +decide only [↓ aA,aE,aB]) (by simp +decide only [↓ aA,aE,aB]) (by simp +decide only [↓ aA,aE,aB]) (by rw [g1];exact by simp +decide only [↓ aA,aE,aB]) (by simp +decide only [↓ aA,aE,aB]) (by simp +decide only [↓ aA,aL,aB,ne_eq]) (by omega) fun t k low o t5=>?_
       simp +contextual +decide (maxSteps:=1000000) only [↓ wP,wQ,tf,Nat.reduceAdd,wS,reduceCtorEq,t5]
    ·rw [show F=false by rw [hF];rw [decide_eq_false g1];simp]
     simp +contextual +decide (maxSteps:=1000000) only [↓ wP,wQ,tf,Nat.reduceAdd,wS,reduceCtorEq,cp,hsp.len,g1]
     refine lp (false) _ _ _ _ (by simp +decide only [↓ aA,aE,aB]) (by simp +decide only [↓ aA,aE,aB]) (by simp +decide only [↓ aA,aE,aB]) (by simp +decide only [↓ aA,aE,aB]) (by simp +decide only [↓ aA,aE,aB]) (by simp +decide only [↓ aA,aL,aB,ne_eq]) (by omega) fun t k low o t5=>?_
     simp +contextual +decide (maxSteps:=1000000) only [↓ wP,wQ,tf,Nat.reduceAdd,wS,reduceCtorEq,t5]
   ·skip
    by_cases g1:((xp.length:Nat):Int)=0
    ·cases g2:inR n 0 1 with
     | true=>
       rw [show F=true by rw [hF];rw [decide_eq_true g1];simp [g2]]
       simp +contextual +decide (maxSteps:=1000000) only [↓ wP,wQ,tf,Nat.reduceAdd,wS,reduceCtorEq,cp,hsp.len,g1,aI,g2]
       refine lp (decide (s=[])) _ _ _ _ (by simp +decide only [↓ aA,aE,aB]) (by simp +decide only [↓ aA,aE,aB]) (by simp +decide only [↓ aA,aE,aB]) (by rw [g1];exact by simp +decide only [↓ aA,aE,aB]) (by simp +decide only [↓ aA,aE,aB]) (by simp +decide only [↓ aA,aL,aB,ne_eq]) (by omega) fun t k low o t5=>?_
       simp +contextual +decide (maxSteps:=1000000) only [↓ wP,wQ,tf,Nat.reduceAdd,wS,reduceCtorEq,t5]
     | false=>
       rw [show F=false by rw [hF];simp [g2]]
       simp +contextual +decide (maxSteps:=1000000) only [↓ wP,wQ,tf,Nat.reduceAdd,wS,reduceCtorEq,cp,hsp.len,g1,aI,g2]
       refine lp (false) _ _ _ _ (by simp +decide only [↓ aA,aE,aB]) (by simp +decide only [↓ aA,aE,aB]) (by simp +decide only [↓ aA,aE,aB]) (by rw [g1];exact by simp +decide only [↓ aA,aE,aB]) (by simp +decide only [↓ aA,aE,aB]) (by simp +decide only [↓ aA,aL,aB,ne_eq]) (by omega) fun t k low o t5=>?_
       simp +contextual +decide (maxSteps:=1000000) only [↓ wP,wQ,tf,Nat.reduceAdd,wS,reduceCtorEq,t5]
    ·rw [show F=false by rw [hF];rw [decide_eq_false g1];simp]
     simp +contextual +decide (maxSteps:=1000000) only [↓ wP,wQ,tf,Nat.reduceAdd,wS,reduceCtorEq,cp,hsp.len,g1]
     refine lp (false) _ _ _ _ (by simp +decide only [↓ aA,aE,aB]) (by simp +decide only [↓ aA,aE,aB]) (by simp +decide only [↓ aA,aE,aB]) (by simp +decide only [↓ aA,aE,aB]) (by simp +decide only [↓ aA,aE,aB]) (by simp +decide only [↓ aA,aL,aB,ne_eq]) (by omega) fun t k low o t5=>?_
     simp +contextual +decide (maxSteps:=1000000) only [↓ wP,wQ,tf,Nat.reduceAdd,wS,reduceCtorEq,t5]
   ·cases g1:inR n 0 ((xc.length:Nat)-1) with
    | false=>
      rw [show F=false by rw [hF];simp [g1]]
      simp +contextual +decide (maxSteps:=1000000) only [↓ wP,wQ,tf,Nat.reduceAdd,wS,reduceCtorEq,cp,hsp.len,hsc.len,w1,aI,g1]
      refine lp (false) _ _ _ _ (by simp +decide only [↓ aA,aE,aB]) (by simp +decide only [↓ aA,aE,aB]) (by simp +decide only [↓ aA,aE,aB]) (by simp +decide only [↓ aA,aE,aB]) (by simp +decide only [↓ aA,aE,aB]) (by simp +decide only [↓ aA,aL,aB,ne_eq]) (by omega) fun t k low o t5=>?_
      simp +contextual +decide (maxSteps:=1000000) only [↓ wP,wQ,tf,Nat.reduceAdd,wS,reduceCtorEq,t5]
    | true=>
      obtain ⟨i,rfl,hlt⟩:∃ i:Nat,n=i/\i<xc.length:=by
       simp [inR]at g1
       exact ⟨n.toNat,by omega,by omega⟩
      obtain ⟨x,hDx,hm,hg,hd,hix,hw,hc⟩:=bK (fun x h=>tk_con.len h) hcx hsc.2 hlt
      obtain ⟨_,_,rfl,⟨c,rfl,hc'⟩,⟨m,rfl⟩⟩:=hDx
      have hget:xc.getD (i:Int).toNat .top=.agg [.str c,.int .i64 m]:=by simp [hg]
      rw [hget,show ((AV.agg [.str c,.int .i64 m]).fld 1).num=m from rfl]at hF
      by_cases g2:((xp.length:Nat):Int)=m
      ·rw [show F=true by rw [hF];rw [decide_eq_true g2];simp [g1]]
       simp +contextual +decide (maxSteps:=1000000) only [↓ wP,wQ,tf,Nat.reduceAdd,wS,reduceCtorEq,cp,hsp.len,hsc.len,hsc.idx,hix,hc,w1,aI,g1,g2]
       refine lp (decide (s=[])) _ _ _ _ (by simp +decide only [↓ aA,aE,aB]) (by simp +decide only [↓ aA,aE,aB]) (by simp +decide only [↓ aA,aE,aB]) (by rw [g2];exact by simp +decide only [↓ aA,aE,aB]) (by simp +decide only [↓ aA,aE,aB]) (by simp +decide only [↓ aA,aL,aB,ne_eq]) (by omega) fun t k low o t5=>?_
       simp +contextual +decide (maxSteps:=1000000) only [↓ wP,wQ,tf,Nat.reduceAdd,wS,reduceCtorEq,t5]
      ·rw [show F=false by rw [hF];rw [decide_eq_false g2];simp]
       simp +contextual +decide (maxSteps:=1000000) only [↓ wP,wQ,tf,Nat.reduceAdd,wS,reduceCtorEq,cp,hsp.len,hsc.len,hsc.idx,hix,hc,w1,aI,g1,g2]
       refine lp (false) _ _ _ _ (by simp +decide only [↓ aA,aE,aB]) (by simp +decide only [↓ aA,aE,aB]) (by simp +decide only [↓ aA,aE,aB]) (by simp +decide only [↓ aA,aE,aB]) (by simp +decide only [↓ aA,aE,aB]) (by simp +decide only [↓ aA,aL,aB,ne_eq]) (by omega) fun t k low o t5=>?_
       simp +contextual +decide (maxSteps:=1000000) only [↓ wP,wQ,tf,Nat.reduceAdd,wS,reduceCtorEq,t5]
   ·obtain ⟨f1,f2,f5,f3,f4,f6⟩:=hf
    rw [show F=false by rw [hF];simp [f1,f2,f3,f4,f5,f6]]
    simp +contextual +decide (maxSteps:=1000000) only [↓ wP,wQ,tf,Nat.reduceAdd,wS,reduceCtorEq,cp,hsp.len,f1,f2,f3,f4,f5,f6]
    refine lp (false) _ _ _ _ (by simp +decide only [↓ aA,aE,aB]) (by simp +decide only [↓ aA,aE,aB]) (by simp +decide only [↓ aA,aE,aB]) (by simp +decide only [↓ aA,aE,aB]) (by simp +decide only [↓ aA,aE,aB]) (by simp +decide only [↓ aA,aL,aB,ne_eq]) (by omega) fun t k low o t5=>?_
    simp +contextual +decide (maxSteps:=1000000) only [↓ wP,wQ,tf,Nat.reduceAdd,wS,reduceCtorEq,t5]
end
end Go.Proofs.YthakciolcdlphaaGreat
