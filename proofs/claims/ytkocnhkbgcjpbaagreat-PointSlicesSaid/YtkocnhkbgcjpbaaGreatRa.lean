/-
  The references: whether lists, worlds and states are alike.
-/
import Derived.Test.YtkocnhkbgcjpbaaGreatQn
set_option linter.unusedVariables false
set_option linter.unusedSimpArgs false
namespace Go.Proofs.YtkocnhkbgcjpbaaGreat
open Go.Abs Go Go.Abs.TryzF
noncomputable section
set_option maxRecDepth 10000
def gE (a b:List AV):Bool:=decide (a.map AV.num=b.map AV.num)
def gJ (a b:List AV):Bool:=decide (a.map rP=b.map rP)
theorem CH {n m:Int} {a b:List AV}:gE (.int .i64 n::a) (.int .i64 m::b)=(decide (n=m)&&gE a b):=by
 simp only [gE,List.map_cons,List.cons.injEq];rw [Bool.decide_and];rfl
theorem PD {n m:Bool} {a b:List AV}:gJ (.bool n::a) (.bool m::b)=(decide (n=m)&&gJ a b):=by
 simp only [gJ,List.map_cons,List.cons.injEq];rw [Bool.decide_and];rfl
theorem FU {a b:List AV} (h:¬ a.length=b.length):gE a b=false:=by
 simp only [gE,decide_eq_false_iff_not];intro e;have:=congrArg List.length e;simp at this;exact h this
theorem WA {a b:List AV} (h:¬ a.length=b.length):gJ a b=false:=by
 simp only [gJ,decide_eq_false_iff_not];intro e;have:=congrArg List.length e;simp at this;exact h this
theorem TS {x y:Operand} {a b:Bool}:cU Tryz.prog .neq 4 x y (.bool a) (.bool b)=some (.bool (!decide (a=b))):=by cases a<;>cases b<;>rfl
theorem aOw {x y:Operand} {k n k' n':Int}:nU Tryz.prog .neq 134 x y (.agg [.int .i64 k,.int .i64 n]) (.agg [.int .i64 k',.int .i64 n'])=true:=by kernel_rfl
theorem aOx {k n k' n':Int}:GX Tryz.prog 10000 134 (.agg [.int .i64 k,.int .i64 n]) (.agg [.int .i64 k',.int .i64 n'])=some (decide (k=k'/\n=n')):=by
 have h2:GX Tryz.prog 10000 134 (.agg [.int .i64 k,.int .i64 n]) (.agg [.int .i64 k',.int .i64 n'])=aeqs Tryz.prog (GX Tryz.prog 9999) [.int .i64 k,.int .i64 n] [.int .i64 k',.int .i64 n'] [(3,0),(3,1)]:=by kernel_rfl
 have q4:∀ {k k':Int},GX Tryz.prog 9999 3 (.int .i64 k) (.int .i64 k')=some (lZ k k'):=by intro _ _;kernel_rfl
 have q5:∀ {k k':AV},kU Tryz.prog 3 [k,k'] 0=some k:=by intro _ _;kernel_rfl
 have q6:∀ {k k':AV},kU Tryz.prog 3 [k,k'] 1=some k':=by intro _ _;kernel_rfl
 rw [h2];simp only [aeqs,q4,q5,q6,fE]
 have hb:∀ a b:Int,(a==b)=decide (a=b):=fun a b=>rfl
 rw [hb,hb,Bool.decide_and];cases decide (k=k')<;>cases decide (n=n')<;>rfl
theorem aAq {x y:Operand} {k n k' n':Int}:cU Tryz.prog .neq 134 x y (.agg [.int .i64 k,.int .i64 n]) (.agg [.int .i64 k',.int .i64 n'])=some (.bool (!decide (k=k'/\n=n'))):=by
 simp only [cU,aOw,cond_true,aOx]
abbrev HC:List AV->Option AV:=rX (fun a b=>dU a/\dU b) fun a b=>.bool (gE a.els b.els)
set_option maxHeartbeats 1000000 in
theorem rsameInts_ok:Abs.Ok Tryz.prog 46 HC:=ok2 fun a b ⟨ha,hb⟩=>by
 have hua:=(aM a ha).1;have hub:=(aM b hb).1;obtain ⟨xs,hs,hxs⟩:=ha;obtain ⟨ys,hy,hys⟩:=hb;rw [hs.els,hy.els];refine aF (L:=[]) aE aH (by kernel_rfl) Tryz.func46 Tryz.ntmps46 Tryz.results46 rfl rfl (aA hua.und (aA hub.und aD)) aG ?_
 by_cases k0:((xs.length:Nat):Int)=((ys.length:Nat):Int)
 rotate_left
 ·rw [FU (by omega)]
  simp +contextual +decide (maxSteps:=1000000) only [↓ wP,wQ,tf,wS,hs.len,hy.len,k0]
 have k1:xs.length=ys.length:=by omega
 have hsp:∃ W,W=gE xs ys:=⟨_,rfl⟩
 obtain ⟨W,hsp⟩:=hsp;rw [<-hsp];simp +contextual +decide (maxSteps:=1000000) only [↓ wP,wQ,tf,wS,hs.len,hy.len,k0];refine aP (fun i e=>∃ t n low o,e=⟨26,none,46,t,[],⟨n,low,o⟩,.no⟩/\t.val 0=a/\t.val 1=b/\t.val 5=.int .i64 (i:Nat)/\0<=n/\i<=xs.length/\W=gE (xs.drop i) (ys.drop i)) (fun i=>xs.length-i) 0 ⟨_,_,_,_,rfl,by simp +decide only [↓ aB,cC,bE],by simp +decide only [↓ aB,cC,bE],by simp +decide only [↓ aB];rfl,by omega,Nat.zero_le _,hsp⟩ ?_;rintro i _ ⟨t,n,low,o,rfl,t0,t1,t5,hn,hi,hq⟩
 rcases Nat.lt_or_ge i xs.length with hlt | hge
 ·obtain ⟨y,hDy,hm,hg,hd,hix,hw,hc⟩:=aZ (fun x h=>tu_int.len h) hxs hs.2 hlt
  obtain ⟨y',hDy',hm',hg',hd',hix',hw',hc'⟩:=aZ (fun x h=>tu_int.len h) hys hy.2 (by omega:i<ys.length)
  have hpf:=fun {d:Option AV}=>tu_int.pf hDy (d:=d)
  have hpf':=fun {d:Option AV}=>tu_int.pf hDy' (d:=d)
  obtain ⟨n,rfl⟩:=hDy;obtain ⟨n',rfl⟩:=hDy';rw [hd,hd',CH]at hq;by_cases k2:n=n'
  ·rw [decide_eq_true k2,Bool.true_and]at hq
   subst k2;simp +contextual +decide (maxSteps:=1000000) only [↓ wP,wQ,tf,Nat.reduceAdd,wS,t0,t1,t5,hs.len,hs.idx,hy.idx,hix,hix',hc,hpf,hw];exact ⟨i+1,by show _-_<_-_;omega,_,_,_,_,rfl,by simp +decide only [↓ aB,t0],by simp +decide only [↓ aB,t1],by simp +decide only [↓ aB],by omega,hlt,hq⟩
  ·rw [decide_eq_false k2,Bool.false_and]at hq
   simp +contextual +decide (maxSteps:=1000000) only [↓ wP,wQ,tf,Nat.reduceAdd,wS,t0,t1,t5,hs.len,hs.idx,hy.idx,hix,hix',hc,hpf,hpf',k2,hq]
 ·obtain rfl:i=xs.length:=Nat.le_antisymm hi hge
  rw [List.drop_length,k1,List.drop_length]at hq;rw [show gE [] []=true from rfl]at hq;simp +contextual +decide (maxSteps:=1000000) only [↓ wP,wQ,tf,wS,t0,t5,hs.len,bB,hq]
abbrev qE:List AV->Option AV:=rX (fun a b=>dU a/\dU b) fun a b=>.bool (gE a.els b.els)
set_option maxHeartbeats 1000000 in
theorem rsame5_ok:Abs.Ok Tryz.prog 35 qE:=ok2 fun a b ⟨ha,hb⟩=>by
 have hua:=(aM a ha).1;have hub:=(aM b hb).1;obtain ⟨xs,hs,hxs⟩:=ha;obtain ⟨ys,hy,hys⟩:=hb;rw [hs.els,hy.els];refine aF (L:=[]) aE aH (by kernel_rfl) Tryz.func35 Tryz.ntmps35 Tryz.results35 rfl rfl (aA hua.und (aA hub.und aD)) aG ?_
 by_cases k0:((xs.length:Nat):Int)=((ys.length:Nat):Int)
 rotate_left
 ·rw [FU (by omega)]
  simp +contextual +decide (maxSteps:=1000000) only [↓ wP,wQ,tf,wS,hs.len,hy.len,k0]
 have k1:xs.length=ys.length:=by omega
 have hsp:∃ W,W=gE xs ys:=⟨_,rfl⟩
 obtain ⟨W,hsp⟩:=hsp;rw [<-hsp];simp +contextual +decide (maxSteps:=1000000) only [↓ wP,wQ,tf,wS,hs.len,hy.len,k0];refine aP (fun i e=>∃ t n low o,e=⟨26,none,35,t,[],⟨n,low,o⟩,.no⟩/\t.val 0=a/\t.val 1=b/\t.val 5=.int .i64 (i:Nat)/\0<=n/\i<=xs.length/\W=gE (xs.drop i) (ys.drop i)) (fun i=>xs.length-i) 0 ⟨_,_,_,_,rfl,by simp +decide only [↓ aB,cC,bE],by simp +decide only [↓ aB,cC,bE],by simp +decide only [↓ aB];rfl,by omega,Nat.zero_le _,hsp⟩ ?_;rintro i _ ⟨t,n,low,o,rfl,t0,t1,t5,hn,hi,hq⟩
 rcases Nat.lt_or_ge i xs.length with hlt | hge
 ·obtain ⟨y,hDy,hm,hg,hd,hix,hw,hc⟩:=aZ (fun x h=>tu_int.len h) hxs hs.2 hlt
  obtain ⟨y',hDy',hm',hg',hd',hix',hw',hc'⟩:=aZ (fun x h=>tu_int.len h) hys hy.2 (by omega:i<ys.length)
  have hpf:=fun {d:Option AV}=>tu_int.pf hDy (d:=d)
  have hpf':=fun {d:Option AV}=>tu_int.pf hDy' (d:=d)
  obtain ⟨n,rfl⟩:=hDy;obtain ⟨n',rfl⟩:=hDy';rw [hd,hd',CH]at hq;by_cases k2:n=n'
  ·rw [decide_eq_true k2,Bool.true_and]at hq
   subst k2;simp +contextual +decide (maxSteps:=1000000) only [↓ wP,wQ,tf,Nat.reduceAdd,wS,t0,t1,t5,hs.len,hs.idx,hy.idx,hix,hix',hc,hpf,hw];exact ⟨i+1,by show _-_<_-_;omega,_,_,_,_,rfl,by simp +decide only [↓ aB,t0],by simp +decide only [↓ aB,t1],by simp +decide only [↓ aB],by omega,hlt,hq⟩
  ·rw [decide_eq_false k2,Bool.false_and]at hq
   simp +contextual +decide (maxSteps:=1000000) only [↓ wP,wQ,tf,Nat.reduceAdd,wS,t0,t1,t5,hs.len,hs.idx,hy.idx,hix,hix',hc,hpf,hpf',k2,hq]
 ·obtain rfl:i=xs.length:=Nat.le_antisymm hi hge
  rw [List.drop_length,k1,List.drop_length]at hq;rw [show gE [] []=true from rfl]at hq;simp +contextual +decide (maxSteps:=1000000) only [↓ wP,wQ,tf,wS,t0,t5,hs.len,bB,hq]
abbrev HD:List AV->Option AV:=rX (fun a b=>qL a/\qL b) fun a b=>.bool (gJ a.els b.els)
set_option maxHeartbeats 1000000 in
theorem rsameTruths_ok:Abs.Ok Tryz.prog 34 HD:=ok2 fun a b ⟨ha,hb⟩=>by
 have hua:=(iR a ha).1;have hub:=(iR b hb).1;obtain ⟨xs,hs,hxs⟩:=ha;obtain ⟨ys,hy,hys⟩:=hb;rw [hs.els,hy.els];refine aF (L:=[]) aE aH (by kernel_rfl) Tryz.func34 Tryz.ntmps34 Tryz.results34 rfl rfl (aA hua.und (aA hub.und aD)) aG ?_
 by_cases k0:((xs.length:Nat):Int)=((ys.length:Nat):Int)
 rotate_left
 ·rw [WA (by omega)]
  simp +contextual +decide (maxSteps:=1000000) only [↓ wP,wQ,tf,wS,hs.len,hy.len,k0]
 have k1:xs.length=ys.length:=by omega
 have hsp:∃ W,W=gJ xs ys:=⟨_,rfl⟩
 obtain ⟨W,hsp⟩:=hsp;rw [<-hsp];simp +contextual +decide (maxSteps:=1000000) only [↓ wP,wQ,tf,wS,hs.len,hy.len,k0];refine aP (fun i e=>∃ t n low o,e=⟨26,none,34,t,[],⟨n,low,o⟩,.no⟩/\t.val 0=a/\t.val 1=b/\t.val 5=.int .i64 (i:Nat)/\0<=n/\i<=xs.length/\W=gJ (xs.drop i) (ys.drop i)) (fun i=>xs.length-i) 0 ⟨_,_,_,_,rfl,by simp +decide only [↓ aB,cC,bE],by simp +decide only [↓ aB,cC,bE],by simp +decide only [↓ aB];rfl,by omega,Nat.zero_le _,hsp⟩ ?_;rintro i _ ⟨t,n,low,o,rfl,t0,t1,t5,hn,hi,hq⟩
 rcases Nat.lt_or_ge i xs.length with hlt | hge
 ·obtain ⟨y,hDy,hm,hg,hd,hix,hw,hc⟩:=aZ (fun x h=>tu_bool.len h) hxs hs.2 hlt
  obtain ⟨y',hDy',hm',hg',hd',hix',hw',hc'⟩:=aZ (fun x h=>tu_bool.len h) hys hy.2 (by omega:i<ys.length)
  have hpf:=fun {d:Option AV}=>tu_bool.pf hDy (d:=d)
  have hpf':=fun {d:Option AV}=>tu_bool.pf hDy' (d:=d)
  obtain ⟨n,rfl⟩:=hDy;obtain ⟨n',rfl⟩:=hDy';rw [hd,hd',PD]at hq;by_cases k2:n=n'
  ·rw [decide_eq_true k2,Bool.true_and]at hq
   subst k2;simp +contextual +decide (maxSteps:=1000000) only [↓ wP,wQ,tf,Nat.reduceAdd,wS,t0,t1,t5,hs.len,hs.idx,hy.idx,hix,hix',hc,hpf,TS,hw];exact ⟨i+1,by show _-_<_-_;omega,_,_,_,_,rfl,by simp +decide only [↓ aB,t0],by simp +decide only [↓ aB,t1],by simp +decide only [↓ aB],by omega,hlt,hq⟩
  ·rw [decide_eq_false k2,Bool.false_and]at hq
   simp +contextual +decide (maxSteps:=1000000) only [↓ wP,wQ,tf,Nat.reduceAdd,wS,t0,t1,t5,hs.len,hs.idx,hy.idx,hix,hix',hc,hpf,hpf',TS,k2,hq]
 ·obtain rfl:i=xs.length:=Nat.le_antisymm hi hge
  rw [List.drop_length,k1,List.drop_length]at hq;rw [show gJ [] []=true from rfl]at hq;simp +contextual +decide (maxSteps:=1000000) only [↓ wP,wQ,tf,wS,t0,t5,hs.len,bB,hq]
abbrev PE:List AV->Option AV:=rX (fun a b=>(TSl nH) a/\(TSl nH) b) fun a b=>.bool (cB a.els b.els)
set_option maxHeartbeats 1000000 in
theorem rsameOuts_ok:Abs.Ok Tryz.prog 47 PE:=ok2 fun a b ⟨ha,hb⟩=>by
 have hua:=(cJ a ha).1;have hub:=(cJ b hb).1;obtain ⟨xs,hs,hxs⟩:=ha;obtain ⟨ys,hy,hys⟩:=hb;rw [hs.els,hy.els];refine aF (L:=[]) aE aH (by kernel_rfl) Tryz.func47 Tryz.ntmps47 Tryz.results47 rfl rfl (aA hua.und (aA hub.und aD)) aG ?_
 by_cases k0:((xs.length:Nat):Int)=((ys.length:Nat):Int)
 rotate_left
 ·rw [yY (by omega)]
  simp +contextual +decide (maxSteps:=1000000) only [↓ wP,wQ,tf,wS,hs.len,hy.len,k0]
 have k1:xs.length=ys.length:=by omega
 have hsp:∃ W,W=cB xs ys:=⟨_,rfl⟩
 obtain ⟨W,hsp⟩:=hsp;rw [<-hsp];simp +contextual +decide (maxSteps:=1000000) only [↓ wP,wQ,tf,wS,hs.len,hy.len,k0];refine aP (fun i e=>∃ t n low o,e=⟨26,none,47,t,[],⟨n,low,o⟩,.no⟩/\t.val 0=a/\t.val 1=b/\t.val 5=.int .i64 (i:Nat)/\0<=n/\i<=xs.length/\W=cB (xs.drop i) (ys.drop i)) (fun i=>xs.length-i) 0 ⟨_,_,_,_,rfl,by simp +decide only [↓ aB,cC,bE],by simp +decide only [↓ aB,cC,bE],by simp +decide only [↓ aB];rfl,by omega,Nat.zero_le _,hsp⟩ ?_;rintro i _ ⟨t,n,low,o,rfl,t0,t1,t5,hn,hi,hq⟩
 rcases Nat.lt_or_ge i xs.length with hlt | hge
 ·obtain ⟨y,hDy,hm,hg,hd,hix,hw,hc⟩:=aZ (fun x h=>tk_out.len h) hxs hs.2 hlt
  obtain ⟨y',hDy',hm',hg',hd',hix',hw',hc'⟩:=aZ (fun x h=>tk_out.len h) hys hy.2 (by omega:i<ys.length)
  have hpf:=fun {d:Option AV}=>tk_out.pf hDy (d:=d)
  have hpf':=fun {d:Option AV}=>tk_out.pf hDy' (d:=d)
  obtain ⟨_,_,rfl,⟨k,rfl⟩,⟨n',rfl⟩⟩:=hDy;obtain ⟨_,_,rfl,⟨k',rfl⟩,⟨m',rfl⟩⟩:=hDy';rw [hd,hd',vI]at hq;by_cases k2:k=k'/\n'=m'
  ·rw [decide_eq_true k2,Bool.true_and]at hq
   obtain ⟨rfl,rfl⟩:=k2;simp +contextual +decide (maxSteps:=1000000) only [↓ wP,wQ,tf,Nat.reduceAdd,wS,t0,t1,t5,hs.len,hs.idx,hy.idx,hix,hix',hc,hpf,aAq,hw];exact ⟨i+1,by show _-_<_-_;omega,_,_,_,_,rfl,by simp +decide only [↓ aB,t0],by simp +decide only [↓ aB,t1],by simp +decide only [↓ aB],by omega,hlt,hq⟩
  ·rw [decide_eq_false k2,Bool.false_and]at hq
   simp +contextual +decide (maxSteps:=1000000) only [↓ wP,wQ,tf,Nat.reduceAdd,wS,t0,t1,t5,hs.len,hs.idx,hy.idx,hix,hix',hc,hpf,hpf',aAq,k2,hq]
 ·obtain rfl:i=xs.length:=Nat.le_antisymm hi hge
  rw [List.drop_length,k1,List.drop_length]at hq;rw [show cB [] []=true from rfl]at hq;simp +contextual +decide (maxSteps:=1000000) only [↓ wP,wQ,tf,wS,t0,t5,hs.len,bB,hq]
def dH:List AV->List AV->Bool
 | [],[]=>true
 | a::l,b::m=>eC a b&&dH l m
 | _,_=>false
def fR (w w':AV):Bool:=decide ((w.fld 0).els.length=(w'.fld 0).els.length)&&(gE (w.fld 1).els (w'.fld 1).els&&(cB (w.fld 2).els (w'.fld 2).els&&(gE (w.fld 3).els (w'.fld 3).els&&(decide ((w.fld 4).num=(w'.fld 4).num)&&dH (w.fld 0).els (w'.fld 0).els))))
abbrev HE:List AV->Option AV:=rX (fun a b=>UO a/\UO b) fun a b=>.bool (fR a b)
set_option maxHeartbeats 4000000 in
theorem rsameW_ok:Abs.Ok Tryz.prog 20 HE:=ok2 fun a b ⟨ha,hb⟩=>by
 have hua:=(rS a ha).1;have hub:=(rS b hb).1;obtain ⟨os,ts,us,is,_,rfl,h1,h2,h3,h4,⟨no,rfl⟩⟩:=ha;obtain ⟨os',ts',us',is',_,rfl,h1',h2',h3',h4',⟨no',rfl⟩⟩:=hb;have c1:=(iG _ h1).2;have c2:=(aM _ h2).2;have c3:=(cJ _ h3).2;have c4:=(aM _ h4).2;have c1':=(iG _ h1').2;have c2':=(aM _ h2').2;have c3':=(cJ _ h3').2;have c4':=(aM _ h4').2;have e1:HC [ts,ts']=some (.bool (gE ts.els ts'.els)):=sg2_eq ⟨h2,h2'⟩;have e2:PE [us,us']=some (.bool (cB us.els us'.els)):=sg2_eq ⟨h3,h3'⟩;have e3:HC [is,is']=some (.bool (gE is.els is'.els)):=sg2_eq ⟨h4,h4'⟩;obtain ⟨xo,ho,hox⟩:=h1;obtain ⟨xo',ho',hox'⟩:=h1'
 have hsp:fR (.agg [os,ts,us,is,.int .i64 no]) (.agg [os',ts',us',is',.int .i64 no'])=(decide (xo.length=xo'.length)&&(gE ts.els ts'.els&&(cB us.els us'.els&&(gE is.els is'.els&&(decide (no=no')&&dH xo xo'))))):=by
  rw [<-ho.els,<-ho'.els];rfl
 rw [hsp];clear hsp;refine aF (L:=[ent 46 HC,ent 47 PE,ent 48 mX]) (elist_cons rsameInts_ok.ent (elist_cons rsameOuts_ok.ent (elist_cons rsameObj_ok.ent aE))) (fun r=>(bif Nat.beq r 6 then [10] else [],[])) (by kernel_rfl) Tryz.func20 Tryz.ntmps20 Tryz.results20 rfl rfl (aA hua.und (aA hub.und aD)) aG ?_;by_cases k0:xo.length=xo'.length
 rotate_left
 ·have k0':(((xo.length:Nat):Int)=((xo'.length:Nat):Int))=False:=eq_false (by omega)
  rw [decide_eq_false k0];simp +contextual +decide (maxSteps:=1000000) only [↓ wP,wQ,tf,Nat.reduceAdd,wS,c1,c2,c3,c4,c1',c2',c3',c4',ho.len,ho'.len,k0']
 have k0':(((xo.length:Nat):Int)=((xo'.length:Nat):Int))=True:=eq_true (by omega);rw [decide_eq_true k0,Bool.true_and]
 cases k1:gE ts.els ts'.els with
 | false=>simp +contextual +decide (maxSteps:=1000000) only [↓ wP,wQ,tf,Nat.reduceAdd,wS,c1,c2,c3,c4,c1',c2',c3',c4',ho.len,ho'.len,k0',e1,k1]
 | true=>
 cases k2:cB us.els us'.els with
 | false=>simp +contextual +decide (maxSteps:=1000000) only [↓ wP,wQ,tf,Nat.reduceAdd,wS,c1,c2,c3,c4,c1',c2',c3',c4',ho.len,ho'.len,k0',e1,k1,e2,k2]
 | true=>
 cases k3:gE is.els is'.els with
 | false=>simp +contextual +decide (maxSteps:=1000000) only [↓ wP,wQ,tf,Nat.reduceAdd,wS,c1,c2,c3,c4,c1',c2',c3',c4',ho.len,ho'.len,k0',e1,k1,e2,k2,e3,k3]
 | true=>
 by_cases k4:no=no'
 rotate_left
 ·rw [decide_eq_false k4]
  simp +contextual +decide (maxSteps:=1000000) only [↓ wP,wQ,tf,Nat.reduceAdd,wS,c1,c2,c3,c4,c1',c2',c3',c4',ho.len,ho'.len,k0',e1,k1,e2,k2,e3,k3,k4]
 rw [decide_eq_true k4,Bool.true_and,Bool.true_and,Bool.true_and,Bool.true_and]
 have hsp:∃ W,W=dH xo xo':=⟨_,rfl⟩
 obtain ⟨W,hsp⟩:=hsp;rw [<-hsp];simp +contextual +decide (maxSteps:=1000000) only [↓ wP,wQ,tf,Nat.reduceAdd,wS,c1,c2,c3,c4,c1',c2',c3',c4',ho.len,ho'.len,k0',e1,k1,e2,k2,e3,k3,k4];refine aP (fun i e=>∃ t n low o,e=⟨63,none,20,t,[],⟨n,low,o⟩,.no⟩/\t.val 2=.ptr 0 0 0/\t.val 3=.ptr 1 0 0/\t.val 5=.int .i64 (i:Nat)/\o.get 0=some (aS 0 [os,ts,us,is,.int .i64 no])/\o.get 1=some (aS 0 [os',ts',us',is',.int .i64 no'])/\2<=n/\i<=xo.length/\W=dH (xo.drop i) (xo'.drop i)) (fun i=>xo.length-i) 0 ⟨_,_,_,_,rfl,by simp +decide only [↓ aB],by simp +decide only [↓ aB],by simp +decide only [↓ aB];rfl,by simp +decide only [↓ aB,ne_eq,k4],by simp +decide only [↓ aB],by omega,Nat.zero_le _,hsp⟩ ?_;rintro i _ ⟨t,n,low,o,rfl,t2,t3,t5,g0,g1,hn,hi,hq⟩;have f0:=dC (show 0<n by omega);have f1:=dC (show 1<n by omega)
 rcases Nat.lt_or_ge i xo.length with hlt | hge
 ·obtain ⟨x,hDx,_,_,hd,hix,hw,k5⟩:=aZ (fun x h=>tk_ob.len h) hox ho.2 hlt
  obtain ⟨x',hDx',_,_,hd',hix',_,_⟩:=aZ (fun x h=>tk_ob.len h) hox' ho'.2 (show i<xo'.length by omega)
  have hpx:=fun {d:Option AV}=>tk_ob.pf hDx (d:=d)
  have hpx':=fun {d:Option AV}=>tk_ob.pf hDx' (d:=d)
  have b2:mX [x,x']=some (.bool (eC x x')):=sg2_eq ⟨hDx,hDx'⟩
  have s1:=fun {Y:Nat->Prop}=>ho.stab (Y:=Y)
  have s2:=fun {Y:Nat->Prop}=>ho'.stab (Y:=Y)
  rw [hd,hd',dH]at hq
  cases k6:eC x x' with
  | false=>
    rw [k6,Bool.false_and]at hq;simp +contextual +decide (maxSteps:=1000000) only [↓ wP,wQ,tf,Nat.reduceAdd,wS,t2,t3,t5,g0,g1,f0,f1,ho.len,ho.idx,ho'.idx,hix,hix',hpx,hpx',k5,b2,k6,hq]
  | true=>
    rw [k6,Bool.true_and]at hq;simp +contextual +decide (maxSteps:=1000000) only [↓ wP,wQ,tf,Nat.reduceAdd,wS,t2,t3,t5,g0,g1,f0,f1,ho.len,ho.idx,ho'.idx,hix,hix',hpx,hpx',k5,b2,k6,hw];exact ⟨i+1,by show _-_<_-_;omega,_,_,_,_,rfl,by simp +decide only [↓ aB,t2],by simp +decide only [↓ aB,t3],by simp +decide only [↓ aB],by simp +decide only [g0],by simp +decide only [g1],by omega,hlt,hq⟩
 ·obtain rfl:i=xo.length:=Nat.le_antisymm hi hge
  rw [List.drop_length,k0,List.drop_length]at hq;rw [show dH [] []=true from rfl]at hq;simp +contextual +decide (maxSteps:=1000000) only [↓ wP,wQ,tf,Nat.reduceAdd,wS,t2,t5,g0,f0,ho.len,bB,hq]
def CI (a b:AV):Bool:=fR (.agg [a.fld 0,a.fld 1,a.fld 2,a.fld 3,a.fld 4]) (.agg [b.fld 0,b.fld 1,b.fld 2,b.fld 3,b.fld 4])&&(fR (.agg [a.fld 5,a.fld 6,a.fld 7,a.fld 8,a.fld 9]) (.agg [b.fld 5,b.fld 6,b.fld 7,b.fld 8,b.fld 9])&&(gJ (a.fld 10).els (b.fld 10).els&&gJ (a.fld 11).els (b.fld 11).els))
abbrev HF:List AV->Option AV:=rX (fun a b=>sF a/\sF b) fun a b=>.bool (CI a b)
theorem rsameS_ok:Abs.Ok Tryz.prog 11 HF:=ok2 fun a b ⟨ha,hb⟩=>by
 obtain ⟨os,ts,us,is,no,os',ts',us',is',no',d,g,rfl,h⟩:=ha;obtain ⟨ps,qs,rs,ss,mo,ps',qs',rs',ss',mo',e,f,rfl,h'⟩:=hb;obtain ⟨c1,c2,c3,c4,c5⟩:=h.w.cells;obtain ⟨c6,c7,c8,c9,c10⟩:=h.s.cells;obtain ⟨c11,c12⟩:=h.cells;obtain ⟨b1,b2,b3,b4,b5⟩:=h'.w.cells;obtain ⟨b6,b7,b8,b9,b10⟩:=h'.s.cells;obtain ⟨b11,b12⟩:=h'.cells;have e1:HE [.agg [os,ts,us,is,no],.agg [ps,qs,rs,ss,mo]]=some (.bool (fR (.agg [os,ts,us,is,no]) (.agg [ps,qs,rs,ss,mo]))):=sg2_eq ⟨h.w.wd,h'.w.wd⟩;have e2:HE [.agg [os',ts',us',is',no'],.agg [ps',qs',rs',ss',mo']]=some (.bool (fR (.agg [os',ts',us',is',no']) (.agg [ps',qs',rs',ss',mo']))):=sg2_eq ⟨h.s.wd,h'.s.wd⟩;have e3:HD [d,e]=some (.bool (gJ d.els e.els)):=sg2_eq ⟨h.d,h'.d⟩;have e4:HD [g,f]=some (.bool (gJ g.els f.els)):=sg2_eq ⟨h.g,h'.g⟩;have hsp:CI (lE os ts us is no os' ts' us' is' no' d g) (lE ps qs rs ss mo ps' qs' rs' ss' mo' e f)=(fR (.agg [os,ts,us,is,no]) (.agg [ps,qs,rs,ss,mo])&&(fR (.agg [os',ts',us',is',no']) (.agg [ps',qs',rs',ss',mo'])&&(gJ d.els e.els&&gJ g.els f.els))):=rfl;rw [hsp];have hu:=aA h.und.und (aA h'.und.und aD);refine aF (L:=[ent 20 HE,ent 34 HD]) (elist_cons rsameW_ok.ent (elist_cons rsameTruths_ok.ent aE)) aH (by kernel_rfl) Tryz.func11 Tryz.ntmps11 Tryz.results11 rfl rfl hu aG ?_;generalize fR (.agg [os,ts,us,is,no]) (.agg [ps,qs,rs,ss,mo])=R1 at *;generalize fR (.agg [os',ts',us',is',no']) (.agg [ps',qs',rs',ss',mo'])=R2 at *;generalize gJ d.els e.els=R3 at *;generalize gJ g.els f.els=R4 at *;unfold lE
 cases R1 with
 | false=>simp +contextual +decide (maxSteps:=1000000) only [↓ wP,wQ,tf,Nat.reduceAdd,wS,c1,c2,c3,c4,c5,c6,c7,c8,c9,c10,c11,c12,b1,b2,b3,b4,b5,b6,b7,b8,b9,b10,b11,b12,uP,e1]
 | true=>
 cases R2 with
 | false=>simp +contextual +decide (maxSteps:=1000000) only [↓ wP,wQ,tf,Nat.reduceAdd,wS,c1,c2,c3,c4,c5,c6,c7,c8,c9,c10,c11,c12,b1,b2,b3,b4,b5,b6,b7,b8,b9,b10,b11,b12,uP,HS,e1,e2]
 | true=>
 cases R3 with
 | false=>simp +contextual +decide (maxSteps:=1000000) only [↓ wP,wQ,tf,Nat.reduceAdd,wS,c1,c2,c3,c4,c5,c6,c7,c8,c9,c10,c11,c12,b1,b2,b3,b4,b5,b6,b7,b8,b9,b10,b11,b12,uP,HS,e1,e2,e3]
 | true=>simp +contextual +decide (maxSteps:=1000000) only [↓ wP,wQ,tf,Nat.reduceAdd,wS,c1,c2,c3,c4,c5,c6,c7,c8,c9,c10,c11,c12,b1,b2,b3,b4,b5,b6,b7,b8,b9,b10,b11,b12,uP,HS,e1,e2,e3,e4]
theorem PF (f:AV):mC f f=true:=by simp [mC,cB]
theorem zU:∀ l:List AV,dL l l=true
 | []=>rfl
 | f::l=>by rw [dL,PF,zU l];rfl
theorem vB (a:AV):eC a a=true:=by simp [eC,cB,zU]
theorem oB:∀ l:List AV,dH l l=true
 | []=>rfl
 | f::l=>by rw [dH,vB,oB l];rfl
theorem CJ:∀ a b:List AV,dH (a.map cD) b=dH a b
 | [],[]=>rfl
 | [],_::_=>rfl
 | _::_,[]=>rfl
 | x::a,y::b=>by rw [List.map_cons,dH,dH,wG,CJ a b]
theorem vC (l:List AV):gE l l=true:=by simp [gE]
theorem CK (l:List AV):gJ l l=true:=by simp [gJ]
theorem PH (l:List AV):cB l l=true:=by simp [cB]
theorem aOy:(∀ {a0 a1 a2 a3 a4 a5 a6 a7 a8 a9 OT OU x0 x1 x2 x3 x4:AV},cE [a0,a1,a2,a3,a4,a5,a6,a7,a8,a9,OT,OU] 0 [x0,x1,x2,x3,x4]=[x0,x1,x2,x3,x4,a5,a6,a7,a8,a9,OT,OU])/\(∀ {a0 a1 a2 a3 a4 a5 a6 a7 a8 a9 OT OU x0 x1 x2 x3 x4:AV},cE [a0,a1,a2,a3,a4,a5,a6,a7,a8,a9,OT,OU] 5 [x0,x1,x2,x3,x4]=[a0,a1,a2,a3,a4,x0,x1,x2,x3,x4,OT,OU]):=⟨rfl,rfl⟩
section
variable {p os ts us is no ns fs mm cs os' ts' us' is' no' d g:AV}
theorem PI {id:Nat} (s:Sto) (hs:s.get id=some (aS 0 (oR os ts us is no ns fs mm cs os' ts' us' is' no' d g))) (hc:(oR os ts us is no ns fs mm cs os' ts' us' is' no' d g).all AV.isCell=true) (hu:∀ x∈oR os ts us is no ns fs mm cs os' ts' us' is' no' d g,UnderE s.n x):
 ∃ S v,(v=lE os ts us is no os' ts' us' is' no' d g/\s.n<=S.low/\Sim s S)/\bG Tryz.prog 32 [.ptr id 0 0] s (.ret v (some {S with low:=Nat.min s.low S.low})):=by
 refine gW (L:=[]) aE aH (by kernel_rfl) Tryz.func32 Tryz.ntmps32 Tryz.results32 rfl rfl ?_;have hlt:=Sto.get_lt hs;obtain ⟨n0,low0,o0⟩:=s;have hlt':id<n0:=hlt
 have g0:o0.get id=some (aS 0 (oR os ts us is no ns fs mm cs os' ts' us' is' no' d g)):=by rw [Sto.get_mk hlt']at hs;exact hs
 unfold oR at g0 hc hu;simp only [List.all_cons,List.all_nil,Bool.and_eq_true,Bool.and_true]at hc;have f0:=mM hlt';have l1:aW [os,ts,us,is,no,ns,fs,mm,cs,os',ts',us',is',no',d,g] 0 5=[os,ts,us,is,no]:=rfl;have l2:aW [os,ts,us,is,no,ns,fs,mm,cs,os',ts',us',is',no',d,g] 9 5=[os',ts',us',is',no']:=rfl
 have hU:∀ x∈[os,ts,us,is,no,os',ts',us',is',no',d,g],UnderE (n0+1) x:=fun x hx=>(hu x (by simp at hx ⊢;rcases hx with h | h | h | h | h | h | h | h | h | h | h | h<;>simp [h])).mono (Nat.le_succ _)
 simp only [List.mem_cons,List.not_mem_nil,or_false,forall_eq_or_imp,forall_eq]at hU;simp +contextual +decide (maxSteps:=1000000) only [↓ wP,wQ,tf,Nat.reduceAdd,wS,g0,f0,hc,l1,l2,wC,aOy,hU,bA,Option.bind_some];refine ⟨rfl,Nat.le_min.2 ⟨Nat.le_refl _,Nat.le_refl _⟩,Nat.le_succ _,fun i hi=>?_⟩;have hi':i<n0:=hi;rw [Sto.get_mk (show i<n0+1 by omega),Sto.get_mk hi',Tr.get_set_ne _ _ (by omega),Tr.get_set_ne _ _ (by omega)]
def wF (args:List AV) (s:Sto) (res:CRes):Prop:=∃ id os ts us is no ns fs mm cs os' ts' us' is' no' d g S,args=[.ptr id 0 0]/\s.get id=some (aS 0 (oR os ts us is no ns fs mm cs os' ts' us' is' no' d g))/\res=.ret (lE os ts us is no os' ts' us' is' no' d g) (some S)/\Sim s S/\Nat.min s.low s.n<=S.low/\bG Tryz.prog 32 args s res
theorem HG {id:Nat} (s:Sto) (hs:s.get id=some (aS 0 (oR os ts us is no ns fs mm cs os' ts' us' is' no' d g))) (hc:(oR os ts us is no ns fs mm cs os' ts' us' is' no' d g).all AV.isCell=true) (hu:∀ x∈oR os ts us is no ns fs mm cs os' ts' us' is' no' d g,UnderE s.n x):∃ res,wF [.ptr id 0 0] s res:=by
 obtain ⟨S,v,⟨rfl,h1,h2⟩,h3⟩:=PI s hs hc hu;exact ⟨_,id,os,ts,us,is,no,ns,fs,mm,cs,os',ts',us',is',no',d,g,{S with low:=Nat.min s.low S.low},rfl,hs,rfl,⟨h2.1,fun id hid=>h2.2 id hid⟩,Nat.le_min.2 ⟨Nat.min_le_left _ _,Nat.le_trans (Nat.min_le_right _ _) h1⟩,h3⟩
theorem PJ {id:Nat} {s:Sto} (hs:s.get id=some (aS 0 (oR os ts us is no ns fs mm cs os' ts' us' is' no' d g))) {res:CRes} (h:wF [.ptr id 0 0] s res):∃ S,res=.ret (lE os ts us is no os' ts' us' is' no' d g) (some S)/\Sim s S:=by
 obtain ⟨id',_,_,_,_,_,_,_,_,_,_,_,_,_,_,_,_,S,e,hg,hr,h1,_⟩:=h;cases e;rw [hs]at hg;have:=(xM (Option.some.inj hg)).2;simp only [oR,List.cons.injEq,and_true]at this;obtain ⟨rfl,rfl,rfl,rfl,rfl,_,_,_,_,rfl,rfl,rfl,rfl,rfl,rfl,rfl⟩:=this;exact ⟨S,hr,h1⟩
end
section
variable {p os ts us is no:AV}
end
end
end Go.Proofs.YtkocnhkbgcjpbaaGreat
