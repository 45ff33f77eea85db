/-
  The references: whether lists, worlds and states are alike.
-/
import Derived.Test.YtkocnhkbgcjpbaaGreatQn
set_option linter.unusedVariables false
set_option linter.unusedSimpArgs false
namespace Go.Proofs.YtkocnhkbgcjpbaaGreat
open Go.Abs Go Go.Abs.TryzF
noncomputable section
set_option maxRecDepth 10000
def jQ (a b:List AV):Bool:=decide (a.map AV.num=b.map AV.num)
def gF (a b:List AV):Bool:=decide (a.map rH=b.map rH)
theorem OP {n m:Int} {a b:List AV}:jQ (.int .i64 n::a) (.int .i64 m::b)=(decide (n=m)&&jQ a b):=by
 simp only [jQ,List.map_cons,List.cons.injEq]
 rw [Bool.decide_and];rfl
theorem OQ {n m:Bool} {a b:List AV}:gF (.bool n::a) (.bool m::b)=(decide (n=m)&&gF a b):=by
 simp only [gF,List.map_cons,List.cons.injEq]
 rw [Bool.decide_and];rfl
theorem VK {a b:List AV} (h:¬ a.length=b.length):jQ a b=false:=by
 simp only [jQ,decide_eq_false_iff_not]
 intro e;have:=congrArg List.length e;simp at this;exact h this
theorem VL {a b:List AV} (h:¬ a.length=b.length):gF a b=false:=by
 simp only [gF,decide_eq_false_iff_not]
 intro e;have:=congrArg List.length e;simp at this;exact h this
theorem TB {x y:Operand} {a b:Bool}:cR Tryz.prog .neq 4 x y (.bool a) (.bool b)=some (.bool (!decide (a=b))):=by cases a<;>cases b<;>rfl
theorem aOh {x y:Operand} {k n k' n':Int}:nL Tryz.prog .neq 134 x y (.agg [.int .i64 k,.int .i64 n]) (.agg [.int .i64 k',.int .i64 n'])=true:=by kernel_rfl
theorem aOi {k n k' n':Int}:GQ Tryz.prog 10000 134 (.agg [.int .i64 k,.int .i64 n]) (.agg [.int .i64 k',.int .i64 n'])=some (decide (k=k'/\n=n')):=by
 have h2:GQ Tryz.prog 10000 134 (.agg [.int .i64 k,.int .i64 n]) (.agg [.int .i64 k',.int .i64 n'])=aeqs Tryz.prog (GQ Tryz.prog 9999) [.int .i64 k,.int .i64 n] [.int .i64 k',.int .i64 n'] [(3,0),(3,1)]:=by kernel_rfl
 have q4:∀ {k k':Int},GQ Tryz.prog 9999 3 (.int .i64 k) (.int .i64 k')=some (lR k k'):=by intro _ _;kernel_rfl
 have q5:∀ {k k':AV},kQ Tryz.prog 3 [k,k'] 0=some k:=by intro _ _;kernel_rfl
 have q6:∀ {k k':AV},kQ Tryz.prog 3 [k,k'] 1=some k':=by intro _ _;kernel_rfl
 rw [h2]
 simp only [aeqs,q4,q5,q6,eW]
 have hb:∀ a b:Int,(a==b)=decide (a=b):=fun a b=>rfl
 rw [hb,hb,Bool.decide_and]
 cases decide (k=k')<;>cases decide (n=n')<;>rfl
theorem aAc {x y:Operand} {k n k' n':Int}:cR Tryz.prog .neq 134 x y (.agg [.int .i64 k,.int .i64 n]) (.agg [.int .i64 k',.int .i64 n'])=some (.bool (!decide (k=k'/\n=n'))):=by
 simp only [cR,aOh,cond_true,aOi]
abbrev GV:List AV->Option AV:=rO (fun a b=>eC a/\eC b) fun a b=>.bool (jQ a.els b.els)
set_option maxHeartbeats 1000000 in
theorem rsameInts_ok:Abs.Ok Tryz.prog 46 GV:=ok2 fun a b ⟨ha,hb⟩=>by
 have hua:=(aL a ha).1
 have hub:=(aL b hb).1
 obtain ⟨xs,hs,hxs⟩:=ha
 obtain ⟨ys,hy,hys⟩:=hb
 rw [hs.els,hy.els]
 refine aF (L:=[]) aE aH (by kernel_rfl) Tryz.func46 Tryz.ntmps46 Tryz.results46 rfl rfl (aA hua.und (aA hub.und aD)) aG ?_
 by_cases k0:((xs.length:Nat):Int)=((ys.length:Nat):Int)
 rotate_left
 ·rw [VK (by omega)]
  simp +contextual +decide (maxSteps:=1000000) only [↓ wP,wQ,tf,wS,hs.len,hy.len,k0]
 have k1:xs.length=ys.length:=by omega
 have hsp:∃ W,W=jQ xs ys:=⟨_,rfl⟩
 obtain ⟨W,hsp⟩:=hsp
 rw [<-hsp]
 simp +contextual +decide (maxSteps:=1000000) only [↓ wP,wQ,tf,wS,hs.len,hy.len,k0]
 refine aQ (fun i e=>∃ t n low o,e=⟨26,none,46,t,[],⟨n,low,o⟩,.no⟩/\t.val 0=a/\t.val 1=b/\t.val 5=.int .i64 (i:Nat)/\0<=n/\i<=xs.length/\W=jQ (xs.drop i) (ys.drop i)) (fun i=>xs.length-i) 0 ⟨_,_,_,_,rfl,by simp +decide only [↓ aB,cD,bA],by simp +decide only [↓ aB,cD,bA],by simp +decide only [↓ aB];rfl,by omega,Nat.zero_le _,hsp⟩ ?_
 rintro i _ ⟨t,n,low,o,rfl,t0,t1,t5,hn,hi,hq⟩
 rcases Nat.lt_or_ge i xs.length with hlt | hge
 ·obtain ⟨y,hDy,hm,hg,hd,hix,hw,hc⟩:=bC (fun x h=>tu_int.len h) hxs hs.2 hlt
  obtain ⟨y',hDy',hm',hg',hd',hix',hw',hc'⟩:=bC (fun x h=>tu_int.len h) hys hy.2 (by omega:i<ys.length)
  have hpf:=fun {d:Option AV}=>tu_int.pf hDy (d:=d)
  have hpf':=fun {d:Option AV}=>tu_int.pf hDy' (d:=d)
  obtain ⟨n,rfl⟩:=hDy
  obtain ⟨n',rfl⟩:=hDy'
  rw [hd,hd',OP]at hq
  by_cases k2:n=n'
  ·rw [decide_eq_true k2,Bool.true_and]at hq
   subst k2
   simp +contextual +decide (maxSteps:=1000000) only [↓ wP,wQ,tf,Nat.reduceAdd,wS,t0,t1,t5,hs.len,hs.idx,hy.idx,hix,hix',hc,hpf,hw]
   exact ⟨i+1,by show _-_<_-_;omega,_,_,_,_,rfl,by simp +decide only [↓ aB,t0],by simp +decide only [↓ aB,t1],by simp +decide only [↓ aB],by omega,hlt,hq⟩
  ·rw [decide_eq_false k2,Bool.false_and]at hq
   simp +contextual +decide (maxSteps:=1000000) only [↓ wP,wQ,tf,Nat.reduceAdd,wS,t0,t1,t5,hs.len,hs.idx,hy.idx,hix,hix',hc,hpf,hpf',k2,hq]
 ·obtain rfl:i=xs.length:=Nat.le_antisymm hi hge
  rw [List.drop_length,k1,List.drop_length]at hq
  rw [show jQ [] []=true from rfl]at hq
  simp +contextual +decide (maxSteps:=1000000) only [↓ wP,wQ,tf,wS,t0,t5,hs.len,bF,hq]
abbrev GW:List AV->Option AV:=rO (fun a b=>qC a/\qC b) fun a b=>.bool (gF a.els b.els)
set_option maxHeartbeats 1000000 in
theorem rsameTruths_ok:Abs.Ok Tryz.prog 34 GW:=ok2 fun a b ⟨ha,hb⟩=>by
 have hua:=(lD a ha).1
 have hub:=(lD b hb).1
 obtain ⟨xs,hs,hxs⟩:=ha
 obtain ⟨ys,hy,hys⟩:=hb
 rw [hs.els,hy.els]
 refine aF (L:=[]) aE aH (by kernel_rfl) Tryz.func34 Tryz.ntmps34 Tryz.results34 rfl rfl (aA hua.und (aA hub.und aD)) aG ?_
 by_cases k0:((xs.length:Nat):Int)=((ys.length:Nat):Int)
 rotate_left
 ·rw [VL (by omega)]
  simp +contextual +decide (maxSteps:=1000000) only [↓ wP,wQ,tf,wS,hs.len,hy.len,k0]
 have k1:xs.length=ys.length:=by omega
 have hsp:∃ W,W=gF xs ys:=⟨_,rfl⟩
 obtain ⟨W,hsp⟩:=hsp
 rw [<-hsp]
 simp +contextual +decide (maxSteps:=1000000) only [↓ wP,wQ,tf,wS,hs.len,hy.len,k0]
 refine aQ (fun i e=>∃ t n low o,e=⟨26,none,34,t,[],⟨n,low,o⟩,.no⟩/\t.val 0=a/\t.val 1=b/\t.val 5=.int .i64 (i:Nat)/\0<=n/\i<=xs.length/\W=gF (xs.drop i) (ys.drop i)) (fun i=>xs.length-i) 0 ⟨_,_,_,_,rfl,by simp +decide only [↓ aB,cD,bA],by simp +decide only [↓ aB,cD,bA],by simp +decide only [↓ aB];rfl,by omega,Nat.zero_le _,hsp⟩ ?_
 rintro i _ ⟨t,n,low,o,rfl,t0,t1,t5,hn,hi,hq⟩
 rcases Nat.lt_or_ge i xs.length with hlt | hge
 ·obtain ⟨y,hDy,hm,hg,hd,hix,hw,hc⟩:=bC (fun x h=>tu_bool.len h) hxs hs.2 hlt
  obtain ⟨y',hDy',hm',hg',hd',hix',hw',hc'⟩:=bC (fun x h=>tu_bool.len h) hys hy.2 (by omega:i<ys.length)
  have hpf:=fun {d:Option AV}=>tu_bool.pf hDy (d:=d)
  have hpf':=fun {d:Option AV}=>tu_bool.pf hDy' (d:=d)
  obtain ⟨n,rfl⟩:=hDy
  obtain ⟨n',rfl⟩:=hDy'
  rw [hd,hd',OQ]at hq
  by_cases k2:n=n'
  ·rw [decide_eq_true k2,Bool.true_and]at hq
   subst k2
   simp +contextual +decide (maxSteps:=1000000) only [↓ wP,wQ,tf,Nat.reduceAdd,wS,t0,t1,t5,hs.len,hs.idx,hy.idx,hix,hix',hc,hpf,TB,hw]
   exact ⟨i+1,by show _-_<_-_;omega,_,_,_,_,rfl,by simp +decide only [↓ aB,t0],by simp +decide only [↓ aB,t1],by simp +decide only [↓ aB],by omega,hlt,hq⟩
  ·rw [decide_eq_false k2,Bool.false_and]at hq
   simp +contextual +decide (maxSteps:=1000000) only [↓ wP,wQ,tf,Nat.reduceAdd,wS,t0,t1,t5,hs.len,hs.idx,hy.idx,hix,hix',hc,hpf,hpf',TB,k2,hq]
 ·obtain rfl:i=xs.length:=Nat.le_antisymm hi hge
  rw [List.drop_length,k1,List.drop_length]at hq
  rw [show gF [] []=true from rfl]at hq
  simp +contextual +decide (maxSteps:=1000000) only [↓ wP,wQ,tf,wS,t0,t5,hs.len,bF,hq]
abbrev OR:List AV->Option AV:=rO (fun a b=>(TSl mY) a/\(TSl mY) b) fun a b=>.bool (cC a.els b.els)
set_option maxHeartbeats 1000000 in
theorem rsameOuts_ok:Abs.Ok Tryz.prog 47 OR:=ok2 fun a b ⟨ha,hb⟩=>by
 have hua:=(bT a ha).1
 have hub:=(bT b hb).1
 obtain ⟨xs,hs,hxs⟩:=ha
 obtain ⟨ys,hy,hys⟩:=hb
 rw [hs.els,hy.els]
 refine aF (L:=[]) aE aH (by kernel_rfl) Tryz.func47 Tryz.ntmps47 Tryz.results47 rfl rfl (aA hua.und (aA hub.und aD)) aG ?_
 by_cases k0:((xs.length:Nat):Int)=((ys.length:Nat):Int)
 rotate_left
 ·rw [yP (by omega)]
  simp +contextual +decide (maxSteps:=1000000) only [↓ wP,wQ,tf,wS,hs.len,hy.len,k0]
 have k1:xs.length=ys.length:=by omega
 have hsp:∃ W,W=cC xs ys:=⟨_,rfl⟩
 obtain ⟨W,hsp⟩:=hsp
 rw [<-hsp]
 simp +contextual +decide (maxSteps:=1000000) only [↓ wP,wQ,tf,wS,hs.len,hy.len,k0]
 refine aQ (fun i e=>∃ t n low o,e=⟨26,none,47,t,[],⟨n,low,o⟩,.no⟩/\t.val 0=a/\t.val 1=b/\t.val 5=.int .i64 (i:Nat)/\0<=n/\i<=xs.length/\W=cC (xs.drop i) (ys.drop i)) (fun i=>xs.length-i) 0 ⟨_,_,_,_,rfl,by simp +decide only [↓ aB,cD,bA],by simp +decide only [↓ aB,cD,bA],by simp +decide only [↓ aB];rfl,by omega,Nat.zero_le _,hsp⟩ ?_
 rintro i _ ⟨t,n,low,o,rfl,t0,t1,t5,hn,hi,hq⟩
 rcases Nat.lt_or_ge i xs.length with hlt | hge
 ·obtain ⟨y,hDy,hm,hg,hd,hix,hw,hc⟩:=bC (fun x h=>tk_out.len h) hxs hs.2 hlt
  obtain ⟨y',hDy',hm',hg',hd',hix',hw',hc'⟩:=bC (fun x h=>tk_out.len h) hys hy.2 (by omega:i<ys.length)
  have hpf:=fun {d:Option AV}=>tk_out.pf hDy (d:=d)
  have hpf':=fun {d:Option AV}=>tk_out.pf hDy' (d:=d)
  obtain ⟨_,_,rfl,⟨k,rfl⟩,⟨n',rfl⟩⟩:=hDy
  obtain ⟨_,_,rfl,⟨k',rfl⟩,⟨m',rfl⟩⟩:=hDy'
  rw [hd,hd',vN]at hq
  by_cases k2:k=k'/\n'=m'
  ·rw [decide_eq_true k2,Bool.true_and]at hq
   obtain ⟨rfl,rfl⟩:=k2
   simp +contextual +decide (maxSteps:=1000000) only [↓ wP,wQ,tf,Nat.reduceAdd,wS,t0,t1,t5,hs.len,hs.idx,hy.idx,hix,hix',hc,hpf,aAc,hw]
   exact ⟨i+1,by show _-_<_-_;omega,_,_,_,_,rfl,by simp +decide only [↓ aB,t0],by simp +decide only [↓ aB,t1],by simp +decide only [↓ aB],by omega,hlt,hq⟩
  ·rw [decide_eq_false k2,Bool.false_and]at hq
   simp +contextual +decide (maxSteps:=1000000) only [↓ wP,wQ,tf,Nat.reduceAdd,wS,t0,t1,t5,hs.len,hs.idx,hy.idx,hix,hix',hc,hpf,hpf',aAc,k2,hq]
 ·obtain rfl:i=xs.length:=Nat.le_antisymm hi hge
  rw [List.drop_length,k1,List.drop_length]at hq
  rw [show cC [] []=true from rfl]at hq
  simp +contextual +decide (maxSteps:=1000000) only [↓ wP,wQ,tf,wS,t0,t5,hs.len,bF,hq]
def fM:List AV->List AV->Bool
 | [],[]=>true
 | a::l,b::m=>dZ a b&&fM l m
 | _,_=>false
def eH (w w':AV):Bool:=decide ((w.fld 0).els.length=(w'.fld 0).els.length)&&(jQ (w.fld 1).els (w'.fld 1).els&&(cC (w.fld 2).els (w'.fld 2).els&&(jQ (w.fld 3).els (w'.fld 3).els&&(decide ((w.fld 4).num=(w'.fld 4).num)&&fM (w.fld 0).els (w'.fld 0).els))))
abbrev vD:List AV->Option AV:=rO (fun a b=>KC a/\KC b) fun a b=>.bool (eH a b)
set_option maxHeartbeats 4000000 in
theorem rsameW_ok:Abs.Ok Tryz.prog 20 vD:=ok2 fun a b ⟨ha,hb⟩=>by
 have hua:=(nX a ha).1
 have hub:=(nX b hb).1
 obtain ⟨os,ts,us,is,_,rfl,h1,h2,h3,h4,⟨no,rfl⟩⟩:=ha
 obtain ⟨os',ts',us',is',_,rfl,h1',h2',h3',h4',⟨no',rfl⟩⟩:=hb
 have c1:=(fT _ h1).2
 have c2:=(aL _ h2).2
 have c3:=(bT _ h3).2
 have c4:=(aL _ h4).2
 have c1':=(fT _ h1').2
 have c2':=(aL _ h2').2
 have c3':=(bT _ h3').2
 have c4':=(aL _ h4').2
 have e1:GV [ts,ts']=some (.bool (jQ ts.els ts'.els)):=sg2_eq ⟨h2,h2'⟩
 have e2:OR [us,us']=some (.bool (cC us.els us'.els)):=sg2_eq ⟨h3,h3'⟩
 have e3:GV [is,is']=some (.bool (jQ is.els is'.els)):=sg2_eq ⟨h4,h4'⟩
 obtain ⟨xo,ho,hox⟩:=h1
 obtain ⟨xo',ho',hox'⟩:=h1'
 have hsp:eH (.agg [os,ts,us,is,.int .i64 no]) (.agg [os',ts',us',is',.int .i64 no'])=(decide (xo.length=xo'.length)&&(jQ ts.els ts'.els&&(cC us.els us'.els&&(jQ is.els is'.els&&(decide (no=no')&&fM xo xo'))))):=by
  rw [<-ho.els,<-ho'.els];rfl
 rw [hsp]
 clear hsp
 refine aF (L:=[ent 46 GV,ent 47 OR,ent 48 mT]) (elist_cons rsameInts_ok.ent (elist_cons rsameOuts_ok.ent (elist_cons rsameObj_ok.ent aE))) (fun r=>(bif Nat.beq r 6 then [10] else [],[])) (by kernel_rfl) Tryz.func20 Tryz.ntmps20 Tryz.results20 rfl rfl (aA hua.und (aA hub.und aD)) aG ?_
 by_cases k0:xo.length=xo'.length
 rotate_left
 ·have k0':(((xo.length:Nat):Int)=((xo'.length:Nat):Int))=False:=eq_false (by omega)
  rw [decide_eq_false k0]
  simp +contextual +decide (maxSteps:=1000000) only [↓ wP,wQ,tf,Nat.reduceAdd,wS,c1,c2,c3,c4,c1',c2',c3',c4',ho.len,ho'.len,k0']
 have k0':(((xo.length:Nat):Int)=((xo'.length:Nat):Int))=True:=eq_true (by omega)
 rw [decide_eq_true k0,Bool.true_and]
 cases k1:jQ ts.els ts'.els with
 | false=>simp +contextual +decide (maxSteps:=1000000) only [↓ wP,wQ,tf,Nat.reduceAdd,wS,c1,c2,c3,c4,c1',c2',c3',c4',ho.len,ho'.len,k0',e1,k1]
 | true=>
 cases k2:cC us.els us'.els with
 | false=>simp +contextual +decide (maxSteps:=1000000) only [↓ wP,wQ,tf,Nat.reduceAdd,wS,c1,c2,c3,c4,c1',c2',c3',c4',ho.len,ho'.len,k0',e1,k1,e2,k2]
 | true=>
 cases k3:jQ is.els is'.els with
 | false=>simp +contextual +decide (maxSteps:=1000000) only [↓ wP,wQ,tf,Nat.reduceAdd,wS,c1,c2,c3,c4,c1',c2',c3',c4',ho.len,ho'.len,k0',e1,k1,e2,k2,e3,k3]
 | true=>
 by_cases k4:no=no'
 rotate_left
 ·rw [decide_eq_false k4]
  simp +contextual +decide (maxSteps:=1000000) only [↓ wP,wQ,tf,Nat.reduceAdd,wS,c1,c2,c3,c4,c1',c2',c3',c4',ho.len,ho'.len,k0',e1,k1,e2,k2,e3,k3,k4]
 rw [decide_eq_true k4,Bool.true_and,Bool.true_and,Bool.true_and,Bool.true_and]
 have hsp:∃ W,W=fM xo xo':=⟨_,rfl⟩
 obtain ⟨W,hsp⟩:=hsp
 rw [<-hsp]
 simp +contextual +decide (maxSteps:=1000000) only [↓ wP,wQ,tf,Nat.reduceAdd,wS,c1,c2,c3,c4,c1',c2',c3',c4',ho.len,ho'.len,k0',e1,k1,e2,k2,e3,k3,k4]
 refine aQ (fun i e=>∃ t n low o,e=⟨63,none,20,t,[],⟨n,low,o⟩,.no⟩/\t.val 2=.ptr 0 0 0/\t.val 3=.ptr 1 0 0/\t.val 5=.int .i64 (i:Nat)/\o.get 0=some (aS 0 [os,ts,us,is,.int .i64 no])/\o.get 1=some (aS 0 [os',ts',us',is',.int .i64 no'])/\2<=n/\i<=xo.length/\W=fM (xo.drop i) (xo'.drop i)) (fun i=>xo.length-i) 0 ⟨_,_,_,_,rfl,by simp +decide only [↓ aB],by simp +decide only [↓ aB],by simp +decide only [↓ aB];rfl,by simp +decide only [↓ aB,ne_eq,k4],by simp +decide only [↓ aB],by omega,Nat.zero_le _,hsp⟩ ?_
 rintro i _ ⟨t,n,low,o,rfl,t2,t3,t5,g0,g1,hn,hi,hq⟩
 have f0:=cY (show 0<n by omega)
 have f1:=cY (show 1<n by omega)
 rcases Nat.lt_or_ge i xo.length with hlt | hge
 ·obtain ⟨x,hDx,_,_,hd,hix,hw,k5⟩:=bC (fun x h=>tk_ob.len h) hox ho.2 hlt
  obtain ⟨x',hDx',_,_,hd',hix',_,_⟩:=bC (fun x h=>tk_ob.len h) hox' ho'.2 (show i<xo'.length by omega)
  have hpx:=fun {d:Option AV}=>tk_ob.pf hDx (d:=d)
  have hpx':=fun {d:Option AV}=>tk_ob.pf hDx' (d:=d)
  have b2:mT [x,x']=some (.bool (dZ x x')):=sg2_eq ⟨hDx,hDx'⟩
  have s1:=fun {Y:Nat->Prop}=>ho.stab (Y:=Y)
  have s2:=fun {Y:Nat->Prop}=>ho'.stab (Y:=Y)
  rw [hd,hd',fM]at hq
  cases k6:dZ x x' with
  | false=>
    rw [k6,Bool.false_and]at hq
    simp +contextual +decide (maxSteps:=1000000) only [↓ wP,wQ,tf,Nat.reduceAdd,wS,t2,t3,t5,g0,g1,f0,f1,ho.len,ho.idx,ho'.idx,hix,hix',hpx,hpx',k5,b2,k6,hq]
  | true=>
    rw [k6,Bool.true_and]at hq
    simp +contextual +decide (maxSteps:=1000000) only [↓ wP,wQ,tf,Nat.reduceAdd,wS,t2,t3,t5,g0,g1,f0,f1,ho.len,ho.idx,ho'.idx,hix,hix',hpx,hpx',k5,b2,k6,hw]
    exact ⟨i+1,by show _-_<_-_;omega,_,_,_,_,rfl,by simp +decide only [↓ aB,t2],by simp +decide only [↓ aB,t3],by simp +decide only [↓ aB],by simp +decide only [g0],by simp +decide only [g1],by omega,hlt,hq⟩
 ·obtain rfl:i=xo.length:=Nat.le_antisymm hi hge
  rw [List.drop_length,k0,List.drop_length]at hq
  rw [show fM [] []=true from rfl]at hq
  simp +contextual +decide (maxSteps:=1000000) only [↓ wP,wQ,tf,Nat.reduceAdd,wS,t2,t5,g0,f0,ho.len,bF,hq]
def BV (a b:AV):Bool:=eH (.agg [a.fld 0,a.fld 1,a.fld 2,a.fld 3,a.fld 4]) (.agg [b.fld 0,b.fld 1,b.fld 2,b.fld 3,b.fld 4])&&(eH (.agg [a.fld 5,a.fld 6,a.fld 7,a.fld 8,a.fld 9]) (.agg [b.fld 5,b.fld 6,b.fld 7,b.fld 8,b.fld 9])&&(gF (a.fld 10).els (b.fld 10).els&&gF (a.fld 11).els (b.fld 11).els))
abbrev GX:List AV->Option AV:=rO (fun a b=>rV a/\rV b) fun a b=>.bool (BV a b)
theorem rsameS_ok:Abs.Ok Tryz.prog 11 GX:=ok2 fun a b ⟨ha,hb⟩=>by
 obtain ⟨os,ts,us,is,no,os',ts',us',is',no',d,g,rfl,h⟩:=ha
 obtain ⟨ps,qs,rs,ss,mo,ps',qs',rs',ss',mo',e,f,rfl,h'⟩:=hb
 obtain ⟨c1,c2,c3,c4,c5⟩:=h.w.cells
 obtain ⟨c6,c7,c8,c9,c10⟩:=h.s.cells
 obtain ⟨c11,c12⟩:=h.cells
 obtain ⟨b1,b2,b3,b4,b5⟩:=h'.w.cells
 obtain ⟨b6,b7,b8,b9,b10⟩:=h'.s.cells
 obtain ⟨b11,b12⟩:=h'.cells
 have e1:vD [.agg [os,ts,us,is,no],.agg [ps,qs,rs,ss,mo]]=some (.bool (eH (.agg [os,ts,us,is,no]) (.agg [ps,qs,rs,ss,mo]))):=sg2_eq ⟨h.w.wd,h'.w.wd⟩
 have e2:vD [.agg [os',ts',us',is',no'],.agg [ps',qs',rs',ss',mo']]=some (.bool (eH (.agg [os',ts',us',is',no']) (.agg [ps',qs',rs',ss',mo']))):=sg2_eq ⟨h.s.wd,h'.s.wd⟩
 have e3:GW [d,e]=some (.bool (gF d.els e.els)):=sg2_eq ⟨h.d,h'.d⟩
 have e4:GW [g,f]=some (.bool (gF g.els f.els)):=sg2_eq ⟨h.g,h'.g⟩
 have hsp:BV (mQ os ts us is no os' ts' us' is' no' d g) (mQ ps qs rs ss mo ps' qs' rs' ss' mo' e f)=(eH (.agg [os,ts,us,is,no]) (.agg [ps,qs,rs,ss,mo])&&(eH (.agg [os',ts',us',is',no']) (.agg [ps',qs',rs',ss',mo'])&&(gF d.els e.els&&gF g.els f.els))):=rfl
 rw [hsp]
 have hu:=aA h.und.und (aA h'.und.und aD)
 refine aF (L:=[ent 20 vD,ent 34 GW]) (elist_cons rsameW_ok.ent (elist_cons rsameTruths_ok.ent aE)) aH (by kernel_rfl) Tryz.func11 Tryz.ntmps11 Tryz.results11 rfl rfl hu aG ?_
 generalize eH (.agg [os,ts,us,is,no]) (.agg [ps,qs,rs,ss,mo])=R1 at *
 generalize eH (.agg [os',ts',us',is',no']) (.agg [ps',qs',rs',ss',mo'])=R2 at *
 generalize gF d.els e.els=R3 at *
 generalize gF g.els f.els=R4 at *
 unfold mQ
 cases R1 with
 | false=>simp +contextual +decide (maxSteps:=1000000) only [↓ wP,wQ,tf,Nat.reduceAdd,wS,c1,c2,c3,c4,c5,c6,c7,c8,c9,c10,c11,c12,b1,b2,b3,b4,b5,b6,b7,b8,b9,b10,b11,b12,uQ,e1]
 | true=>
 cases R2 with
 | false=>simp +contextual +decide (maxSteps:=1000000) only [↓ wP,wQ,tf,Nat.reduceAdd,wS,c1,c2,c3,c4,c5,c6,c7,c8,c9,c10,c11,c12,b1,b2,b3,b4,b5,b6,b7,b8,b9,b10,b11,b12,uQ,LH,e1,e2]
 | true=>
 cases R3 with
 | false=>simp +contextual +decide (maxSteps:=1000000) only [↓ wP,wQ,tf,Nat.reduceAdd,wS,c1,c2,c3,c4,c5,c6,c7,c8,c9,c10,c11,c12,b1,b2,b3,b4,b5,b6,b7,b8,b9,b10,b11,b12,uQ,LH,e1,e2,e3]
 | true=>simp +contextual +decide (maxSteps:=1000000) only [↓ wP,wQ,tf,Nat.reduceAdd,wS,c1,c2,c3,c4,c5,c6,c7,c8,c9,c10,c11,c12,b1,b2,b3,b4,b5,b6,b7,b8,b9,b10,b11,b12,uQ,LH,e1,e2,e3,e4]
theorem OS (f:AV):lV f f=true:=by simp [lV,cC]
theorem zP:∀ l:List AV,dK l l=true
 | []=>rfl
 | f::l=>by rw [dK,OS,zP l];rfl
theorem OT (a:AV):dZ a a=true:=by simp [dZ,cC,zP]
theorem jF:∀ l:List AV,fM l l=true
 | []=>rfl
 | f::l=>by rw [fM,OT,jF l];rfl
theorem wG:∀ a b:List AV,fM (a.map cN) b=fM a b
 | [],[]=>rfl
 | [],_::_=>rfl
 | _::_,[]=>rfl
 | x::a,y::b=>by rw [List.map_cons,fM,fM,HB,wG a b]
theorem BW (l:List AV):jQ l l=true:=by simp [jQ]
theorem BX (l:List AV):gF l l=true:=by simp [gF]
theorem OU (l:List AV):cC l l=true:=by simp [cC]
theorem aOj:(∀ {a0 a1 a2 a3 a4 a5 a6 a7 a8 a9 OI OJ x0 x1 x2 x3 x4:AV},cU [a0,a1,a2,a3,a4,a5,a6,a7,a8,a9,OI,OJ] 0 [x0,x1,x2,x3,x4]=[x0,x1,x2,x3,x4,a5,a6,a7,a8,a9,OI,OJ])/\(∀ {a0 a1 a2 a3 a4 a5 a6 a7 a8 a9 OI OJ x0 x1 x2 x3 x4:AV},cU [a0,a1,a2,a3,a4,a5,a6,a7,a8,a9,OI,OJ] 5 [x0,x1,x2,x3,x4]=[a0,a1,a2,a3,a4,x0,x1,x2,x3,x4,OI,OJ]):=⟨rfl,rfl⟩
section
variable {p os ts us is no ns fs mm cs os' ts' us' is' no' d g:AV}
theorem OV {id:Nat} (s:Sto) (hs:s.get id=some (aS 0 (uP os ts us is no ns fs mm cs os' ts' us' is' no' d g))) (hc:(uP os ts us is no ns fs mm cs os' ts' us' is' no' d g).all AV.isCell=true) (hu:∀ x∈uP os ts us is no ns fs mm cs os' ts' us' is' no' d g,UnderE s.n x):
 ∃ S v,(v=mQ os ts us is no os' ts' us' is' no' d g/\s.n<=S.low/\Sim s S)/\bG Tryz.prog 32 [.ptr id 0 0] s (.ret v (some {S with low:=Nat.min s.low S.low})):=by
 refine gX (L:=[]) aE aH (by kernel_rfl) Tryz.func32 Tryz.ntmps32 Tryz.results32 rfl rfl ?_
 have hlt:=Sto.get_lt hs
 obtain ⟨n0,low0,o0⟩:=s
 have hlt':id<n0:=hlt
 have g0:o0.get id=some (aS 0 (uP os ts us is no ns fs mm cs os' ts' us' is' no' d g)):=by rw [Sto.get_mk hlt']at hs;exact hs
 unfold uP at g0 hc hu
 simp only [List.all_cons,List.all_nil,Bool.and_eq_true,Bool.and_true]at hc
 have f0:=pZ hlt'
 have l1:aW [os,ts,us,is,no,ns,fs,mm,cs,os',ts',us',is',no',d,g] 0 5=[os,ts,us,is,no]:=rfl
 have l2:aW [os,ts,us,is,no,ns,fs,mm,cs,os',ts',us',is',no',d,g] 9 5=[os',ts',us',is',no']:=rfl
 have hU:∀ x∈[os,ts,us,is,no,os',ts',us',is',no',d,g],UnderE (n0+1) x:=fun x hx=>(hu x (by simp at hx ⊢;rcases hx with h | h | h | h | h | h | h | h | h | h | h | h<;>simp [h])).mono (Nat.le_succ _)
 simp only [List.mem_cons,List.not_mem_nil,or_false,forall_eq_or_imp,forall_eq]at hU
 simp +contextual +decide (maxSteps:=1000000) only [↓ wP,wQ,tf,Nat.reduceAdd,wS,g0,f0,hc,l1,l2,uU,aOj,hU,bE,Option.bind_some]
 refine ⟨rfl,Nat.le_min.2 ⟨Nat.le_refl _,Nat.le_refl _⟩,Nat.le_succ _,fun i hi=>?_⟩
 have hi':i<n0:=hi
 rw [Sto.get_mk (show i<n0+1 by omega),Sto.get_mk hi',Tr.get_set_ne _ _ (by omega),Tr.get_set_ne _ _ (by omega)]
def GY (args:List AV) (s:Sto) (res:CRes):Prop:=∃ id os ts us is no ns fs mm cs os' ts' us' is' no' d g S,args=[.ptr id 0 0]/\s.get id=some (aS 0 (uP os ts us is no ns fs mm cs os' ts' us' is' no' d g))/\res=.ret (mQ os ts us is no os' ts' us' is' no' d g) (some S)/\Sim s S/\Nat.min s.low s.n<=S.low/\bG Tryz.prog 32 args s res
theorem GZ {id:Nat} (s:Sto) (hs:s.get id=some (aS 0 (uP os ts us is no ns fs mm cs os' ts' us' is' no' d g))) (hc:(uP os ts us is no ns fs mm cs os' ts' us' is' no' d g).all AV.isCell=true) (hu:∀ x∈uP os ts us is no ns fs mm cs os' ts' us' is' no' d g,UnderE s.n x):∃ res,GY [.ptr id 0 0] s res:=by
 obtain ⟨S,v,⟨rfl,h1,h2⟩,h3⟩:=OV s hs hc hu
 exact ⟨_,id,os,ts,us,is,no,ns,fs,mm,cs,os',ts',us',is',no',d,g,{S with low:=Nat.min s.low S.low},rfl,hs,rfl,⟨h2.1,fun id hid=>h2.2 id hid⟩,Nat.le_min.2 ⟨Nat.min_le_left _ _,Nat.le_trans (Nat.min_le_right _ _) h1⟩,h3⟩
theorem OW {id:Nat} {s:Sto} (hs:s.get id=some (aS 0 (uP os ts us is no ns fs mm cs os' ts' us' is' no' d g))) {res:CRes} (h:GY [.ptr id 0 0] s res):∃ S,res=.ret (mQ os ts us is no os' ts' us' is' no' d g) (some S)/\Sim s S:=by
 obtain ⟨id',_,_,_,_,_,_,_,_,_,_,_,_,_,_,_,_,S,e,hg,hr,h1,_⟩:=h
 cases e
 rw [hs]at hg
 have:=(aIc (Option.some.inj hg)).2
 simp only [uP,List.cons.injEq,and_true]at this
 obtain ⟨rfl,rfl,rfl,rfl,rfl,_,_,_,_,rfl,rfl,rfl,rfl,rfl,rfl,rfl⟩:=this
 exact ⟨S,hr,h1⟩
end
abbrev wH:AV:=.func (.func 41) [] []
theorem VM (x:AV) (hx:cP x):Abs.Returns Tryz.prog 41 ([]++[x]++[]) (.bool false):=by
 have hux:=(tu_int x hx).1
 obtain ⟨k,rfl⟩:=hx
 show Abs.Returns _ _ [.int .i64 k] _
 refine aF (L:=[]) aE aH (by kernel_rfl) Tryz.func41 Tryz.ntmps41 Tryz.results41 rfl rfl (aA hux.und aD) aG ?_
 simp +contextual +decide (maxSteps:=1000000) only [↓ wP,wQ]
def lU (xs:List AV) (i:Nat):List AV:=List.replicate i bareA++xs.drop i
theorem FL {xs:List AV} {i:Nat} (h:i<=xs.length):(lU xs i).length=xs.length:=by simp [lU];omega
theorem VN {xs:List AV} {i:Nat} (h:i<xs.length):(lU xs i).set i bareA=lU xs (i+1):=by
 have hd:xs.drop i=xs[i]::xs.drop (i+1):=List.drop_eq_getElem_cons h
 rw [lU,hd,List.set_append_right _ _ (by simp),List.length_replicate,Nat.sub_self,List.set_cons_zero,lU,List.replicate_succ',List.append_assoc]
 rfl
theorem VO {xs:List AV} {i:Nat} (h:∀ x∈xs,nP x):∀ x∈lU xs i,nP x:=fun x hx=>by
 rcases List.mem_append.1 hx with hx | hx
 ·rw [(List.mem_replicate.1 hx).2];exact pC
 ·exact h x (List.mem_of_mem_drop hx)
theorem VP {n i:Nat}:(gC n []).set i (.bool false)=gC n []:=by
 refine List.ext_getElem? fun j=>?_
 rw [List.getElem?_set]
 by_cases h:i=j
 ·subst h
  by_cases h2:i<n
  ·simp [gC,h2]
  ·simp [gC,h2]
 ·simp [h]
abbrev rS (n:Nat):List AV:=gC n []
section
variable {p os ts us is no:AV}
abbrev vE:List kL:=[fV 55 CB,mD 41 [] [] cP fun _=>.bool false]
theorem VQ:∀ x∈vE,cI Tryz.prog x:=elist_cons (eD fun _ _ _ h=>by obtain ⟨_,_,_,_,_,_,_,_,_,h,_⟩:=h;exact h) (elist_cons (dI VM) aE)
def OX:dR:=fun r=>bif Nat.beq r 1 then ([],[1000]) else bif Nat.beq r 5 then ([7],[]) else ([],[])
theorem TC:OX 1=([],[1000])/\OX 5=([7],[]):=⟨rfl,rfl⟩
set_option maxHeartbeats 16000000 in
theorem VS (hp:eN p) (hw:WG os ts us is no) (hsm:SmW (wg os ts us is no)) (s:Sto):∃ S v,(Sim s S/\∃ id,v=.ptr id 0 0/\OpenAt s.n S id (p.fld 0) (p.fld 1) (p.fld 2) (p.fld 3) ts us is no ts us is no os.els (List.replicate os.els.length bareA) (rS os.els.length) (rS os.els.length))/\bG Tryz.prog 40 [p,wg os ts us is no,wH] s (.ret v (some {S with low:=Nat.min s.low S.low})):=by
 obtain ⟨n0,low0,o0⟩:=s
 refine gX (L:=vE) VQ OX (by kernel_rfl) Tryz.func40 Tryz.ntmps40 Tryz.results40 rfl rfl ?_
 obtain ⟨c1,c2,c3,c4,c5⟩:=hw.cells
 have hq:∃ ns fs mm cs,p=.agg [ns,fs,mm,cs]/\ns.isCell=true/\fs.isCell=true/\mm.isCell=true/\cs.isCell=true:=by
  obtain ⟨ns,fs,mm,cs,rfl,a1,a2,a3,a4⟩:=hp
  exact ⟨ns,fs,mm,cs,rfl,(cS _ a1).2,(aL _ a2).2,(tu_int _ a3).2,(cZ _ a4).2⟩
 obtain ⟨ns,fs,mm,cs,rfl,q1,q2,q3,q4⟩:=hq
 have l3:∀ S,∃ res,CB [.agg [os,ts,us,is,no]] S res/\aV vE 55 [.agg [os,ts,us,is,no]] S=some res:=fun S=>by
  obtain ⟨res,h1,h2⟩:=jR (f:=55) (zQ hw hsm S)
  exact ⟨res,h1,h2 _⟩
 have l4:∀ (k:Int) S,aV vE 41 [.int .i64 k] S=some (.ret (.bool false) none):=fun k S=>by
  unfold vE;rw [bR (by decide)];exact bK (first:=[]) (cap:=[]) (p:=fun _=>.bool false) (L:=[]) (x:=.int .i64 k) ⟨k,rfl⟩
 have l4':∀ (k:Int),aV vE 41 [.int .i64 k]=fun _=>some (.ret (.bool false) none):=fun k=>funext (l4 k)
 have n1:=fun {s:Sto} {d:Option ORes}=>wK hw.os (s:=s) (d:=d)
 have hlen:=hsm.1.1
 have hlen':os.els.length<=1000:=hlen
 generalize hσ:(o0.set n0 (aS 0 [ns,fs,mm,cs])).set (n0+1) (aS 0 [os,ts,us,is,no])=o4
 have g40:o4.get n0=some (aS 0 [ns,fs,mm,cs]):=hσ ▸ (by simp +decide only [↓ aB,bA,ne_eq,uU])
 have g41:o4.get (n0+1)=some (aS 0 [os,ts,us,is,no]):=hσ ▸ (by simp +decide only [↓ aB])
 have hol4:Old n0 o0 (n0+1+1) o4:=hσ ▸ aAu.1
 obtain ⟨_,⟨_,_,_,_,_,⟨m1,low1,o1⟩,v1,ea,rfl,_,_,hs1,ac1⟩,he1⟩:=l3 ⟨n0+1+1,n0,o4⟩
 cases ea
 obtain ⟨_,⟨_,_,_,_,_,⟨m2,low2,o2⟩,v2,ea,rfl,_,_,hs2,ac2⟩,he2⟩:=l3 ⟨m1,low1,o1⟩
 cases ea
 have b1:n0+1+1<=m1:=hs1.1
 have b2:m1<=m2:=hs2.1
 have hkp:∀ {x n low n' low':Nat} {o o':Tr AObj},x<=n->Sim ⟨n,low,o⟩ ⟨n',low',o'⟩->iG x ⟨n,low,o⟩ ⟨n',low',o'⟩:=fun hn hs id hid=>hs.2 id (Nat.lt_of_lt_of_le hid hn)
 have kp1:=hkp (Nat.le_refl _) hs1
 have kp2:=hkp b1 hs2
 have hgt:∀ {n low n' low':Nat} {o o':Tr AObj},Sim ⟨n,low,o⟩ ⟨n',low',o'⟩->∀ {i:Nat} {x:AObj},i<n->o.get i=some x->o'.get i=some x:=fun {n low n' low' o o'} hs {i x} hi hx=>by
  have h1:=hs.2 i hi
  have hn:n<=n':=hs.1
  rw [Sto.get_mk (show i<n' by omega),Sto.get_mk hi]at h1
  exact h1.trans hx
 have e10:=hgt hs1 (show n0<n0+1+1 by omega) g40
 have e11:=hgt hs1 (show n0+1<n0+1+1 by omega) g41
 have e20:=hgt hs2 (show n0<m1 by omega) e10
 have e21:=hgt hs2 (show n0+1<m1 by omega) e11
 have st1:StN (n0+1+1) m1 ⟨m1,low1,o1⟩ v1 (os.els.map cN):=StN.acc ac1
 have st2:StN m1 m2 ⟨m2,low2,o2⟩ v2 (os.els.map cN):=StN.acc ac2
 have s1:=st1.sim hs2
 have y1:UnderE m2 v1/\UnderE m2 v2/\UnderE (m2+1) v1/\UnderE (m2+1) v2/\UnderE (m2+1+1) v1/\UnderE (m2+1+1) v2:=⟨s1.under,st2.under,s1.under.mono (Nat.le_succ _),st2.under.mono (Nat.le_succ _),s1.under.mono (show m2<=m2+1+1 by omega),st2.under.mono (show m2<=m2+1+1 by omega)⟩
 have y2:v1.isCell=true/\v2.isCell=true:=⟨s1.cell,st2.cell⟩
 have tI:=fun {a:AV} (h:eC a)=>(aL _ (aY h))
 have tO:=fun {a:AV} (h:TSl mY a)=>(bT _ (aY h))
 have y3:=And.intro (tI hw.ts).2 (And.intro (tO hw.us).2 (tI hw.is).2)
 have y4:∀ {m:Nat},UnderE m (aJ ts)/\UnderE m (aJ us)/\UnderE m (aJ is):=fun {m}=>⟨(tI hw.ts).1.mono (Nat.zero_le _),(tO hw.us).1.mono (Nat.zero_le _),(tI hw.is).1.mono (Nat.zero_le _)⟩
 have y5:∀ {m:Nat},UnderE m os/\UnderE m ts/\UnderE m us/\UnderE m is/\UnderE m no:=fun {m}=>⟨(fT _ hw.os).1.mono (Nat.zero_le _),(aL _ hw.ts).1.mono (Nat.zero_le _),(bT _ hw.us).1.mono (Nat.zero_le _),(aL _ hw.is).1.mono (Nat.zero_le _),(tu_int _ hw.no).1.mono (Nat.zero_le _)⟩
 have y6:∀ {m:Nat},UnderE m ns/\UnderE m fs/\UnderE m mm/\UnderE m cs:=fun {m}=>by
  have:=jH (dD _ hp).1
  exact ⟨(this ns (by simp)).mono (Nat.zero_le _),(this fs (by simp)).mono (Nat.zero_le _),(this mm (by simp)).mono (Nat.zero_le _),(this cs (by simp)).mono (Nat.zero_le _)⟩
 have x1:=pZ (show n0<m1 by omega)
 have x2:=pZ (show n0+1<m1 by omega)
 have x3:=pZ (show n0<m2 by omega)
 have x4:=pZ (show n0+1<m2 by omega)
 have x5:n0+1+1<=m1/\m1<=m2:=⟨b1,b2⟩
 have hps:∀ {x n low low':Nat} {o:Tr AObj} {v:AObj},x<=n->iG x ⟨n,low,o⟩ ⟨n+1,low',o.set n v⟩:=fun {x n low low' o v} hn id hid=>by
  rw [Sto.get_mk (show id<n+1 by omega),Sto.get_mk (show id<n by omega),Tr.get_set_ne _ _ (by omega)]
 have x6:n0+1+1<=m2/\n0+1+1<=m2+1/\n0+1+1<=m2+1+1:=by omega
 have sO:∀ {Y:Nat->Prop},eE Y os:=fun {Y}=>by obtain ⟨xs,hs,_⟩:=hw.os;exact hs.stab
 generalize hLL:vE=LL at *
 unfold wg
 simp +contextual +decide (maxSteps:=1000000) only [↓ wP,wQ,tf,Nat.reduceAdd,wS,c1,c2,c3,c4,c5,q1,q2,q3,q4,hσ,n1,TC,g41,he1,he2,kp1,kp2,e10,e11,e21,y1,y2,y3,y4,y5,y6,x1,x2,x4,x5,x6,hps,sO,uU,aOq,sF (n:=os.els.length) hlen']
 generalize hD:gC os.els.length []=D at *
 have hDl:D.length=os.els.length:=by rw [<-hD];exact iL
 have hDs:∀ i,D.set i (.bool false)=D:=fun i=>by rw [<-hD];exact VP
 have hDg:∀ i,i<os.els.length->D[i]?=some (.bool false):=fun i hi=>by rw [<-hD];simp [gC,hi]
 have hxs:∀ x∈os.els.map cN,nP x:=pY fun x hx=>dT (bH hw.os x hx)
 refine aQ (fun i e=>∃ t low o,e=⟨57,none,40,t,[],⟨m2+1+1+1,low,o⟩,.no⟩/\t.val 2=wH/\t.val 7=.ptr (m2+1+1) 0 0/\t.val 26=.int .i64 (os.els.length:Nat)/\t.val 27=.int .i64 (i:Nat)/\i<=os.els.length/\(∀ j,j<m1->o.get j=o2.get j)/\o.get m2=some (aS 0 D)/\o.get (m2+1)=some (aS 0 D)/\o.get (m2+1+1)=some (aS 0 [v1,aJ ts,aJ us,aJ is,no,ns,fs,mm,cs,v2,aJ ts,aJ us,aJ is,no,.sl m2 0 0 os.els.length (.is os.els.length),.sl (m2+1) 0 0 os.els.length (.is os.els.length)])/\StN m1 m2 ⟨m2+1+1+1,low,o⟩ v2 (lU (os.els.map cN) i)) (fun i=>os.els.length-i) 0
  ⟨_,_,_,rfl,by simp +decide only [↓ aB,cD,bA],by simp +decide only [↓ aB],by simp +decide only [↓ aB],by simp +decide only [↓ aB];rfl,Nat.zero_le _,fun j hj=>?_,by simp +decide only [↓ aB,bA,ne_eq,uU],by simp +decide only [↓ aB,bA,ne_eq,uU],by simp +decide only [↓ aB],?_⟩ ?_
 ·rw [Tr.get_set_ne _ _ (by omega),Tr.get_set_ne _ _ (by omega),Tr.get_set_ne _ _ (by omega)]
 ·refine st2.keep fun j h1 h2 h3=>?_
  have h1':j<m2:=h1
  rw [Sto.get_mk (show j<m2+1+1+1 by omega),Sto.get_mk h1',Tr.get_set_ne _ _ (by omega),Tr.get_set_ne _ _ (by omega),Tr.get_set_ne _ _ (by omega)]
 rintro i _ ⟨t,low,o,rfl,t2,t7,t26,t27,hi,hk,gd,gg,gp,hst⟩
 have f1:=uU (n:=m2)
 rcases Nat.lt_or_ge i os.els.length with hlt | hge
 ·have k5:(((i:Nat):Int)<((os.els.length:Nat):Int))=True:=eq_true (by omega)
  have k4:(0<=((i:Nat):Int))=True:=eq_true (by omega)
  have hw':IntKind.i64.wrap ((i:Int)+1)=((i+1:Nat):Int):=by rw [IntWalk.i64_in _ (by omega)];rfl
  have hzl:(lU (os.els.map cN) i).length=os.els.length:=by rw [FL (by rw [List.length_map];exact hi),List.length_map]
  obtain ⟨id2,g2,cc2,hv2,go2,hlo,hhi,_⟩:=hst.at_ (show i<_ by rw [hzl];exact hlt)
  have hall:=VO (i:=i) hxs
  have hset:=TO (fun x hx=>tk_ob.len (hall x hx)) (show i<(lU (os.els.map cN) i).length by rw [hzl];exact hlt) (x:=bareA) rfl
  rw [VN (by rw [List.length_map];exact hlt)]at hset
  have hrl:i*4+4<=((lU (os.els.map cN) i).map AV.cells).flatten.length:=(yN (fun x hx=>tk_ob.len (hall x hx)) (List.getElem?_eq_getElem (show i<(lU (os.els.map cN) i).length by rw [hzl];exact hlt))).2
  have go2':o.get id2=some (aS g2 ((lU (os.els.map cN) i).map AV.cells).flatten):=by rw [Sto.get_mk (show id2<m2+1+1+1 by omega)]at go2;exact go2
  rw [hzl]at hv2
  have gp':=gp
  rw [hv2]at gp'
  have hb:bareA.cells=[.int .i64 0,.int .i64 0,.nils,.nils]:=rfl
  rw [hb]at hset
  generalize ((lU (os.els.map cN) i).map AV.cells).flatten=R at *
  have f2:=pZ (show id2<m2+1+1+1 by omega)
  have f3:id2≠m2/\m2≠id2/\id2≠m2+1/\m2+1≠id2/\id2≠m2+1+1/\m2+1+1≠id2:=by omega
  simp +contextual +decide (maxSteps:=1000000) only [↓ wP,wQ,tf,Nat.reduceAdd,wS,t2,t7,t26,t27,gd,gp',go2',f1,f2,f3,k4,k5,l4',hDl,hDs,hDg i hlt,TC,hset,hrl,hlt,Int.toNat_natCast,Nat.mul_one,Nat.zero_add,hw']
  refine ⟨i+1,by show _-_<_-_;omega,_,_,_,rfl,by simp +decide only [↓ aB,t2],by simp +decide only [↓ aB,t7],by simp +decide only [↓ aB,t26],by simp +decide only [↓ aB],hlt,fun j hj=>?_,by simp +decide only [↓ aB,bA,ne_eq,f3],by simp +decide only [↓ aB,bA,ne_eq,f1,f3,gg],by simp +decide only [↓ aB,bA,ne_eq,f1,f3,gp],.inr ⟨id2,g2,cc2,?_,?_,hlo,hhi⟩⟩
  ·rw [Tr.get_set_ne _ _ (by omega),Tr.get_set_ne _ _ (by omega)];exact hk j hj
  ·rw [hv2,FL (by rw [List.length_map];exact hlt),List.length_map]
  ·rw [Sto.get_mk (show id2<m2+1+1+1 by omega)];exact Tr.get_set_same _ _ _
 ·obtain rfl:i=os.els.length:=Nat.le_antisymm hi hge
  have k5:(((os.els.length:Nat):Int)<((os.els.length:Nat):Int))=False:=eq_false (by omega)
  simp +contextual +decide (maxSteps:=1000000) only [↓ wP,wQ,wS,t7,t26,t27,k5]
  have hz:lU (os.els.map cN) os.els.length=(List.replicate os.els.length bareA).map cN:=by
   rw [lU,List.drop_of_length_le (by rw [List.length_map];exact Nat.le_refl _),List.append_nil,List.map_replicate];rfl
  rw [hz]at hst
  have hD':∀ k,o.get k=some (aS 0 D)->k<m2+1+1+1->StN k (k+1) ⟨m2+1+1+1,low,o⟩ (.sl k 0 0 os.els.length (.is os.els.length)) D:=fun k hg hkk=>by
   refine .inr ⟨k,0,_,by rw [hDl],?_,Nat.le_refl _,Nat.lt_succ_self _⟩
   rw [Sto.get_mk hkk,hg,gI fun x hx=>(tu_bool x (by rw [<-hD]at hx;exact eS x hx)).2]
  refine ⟨⟨show n0<=m2+1+1+1 by omega,fun j hj=>?_⟩,m2+1+1,rfl,v1,v2,.sl m2 0 0 os.els.length (.is os.els.length),.sl (m2+1) 0 0 os.els.length (.is os.els.length),m1,m2,m2+1,?_,(s1.keep fun j h1 h2 h3=>?_).le (by omega) (Nat.le_refl _),hst,?_,?_,by omega,by omega,by omega,by omega⟩
  ·have hj':j<n0:=hj
   have w1:=hs1.2 j (show j<n0+1+1 by omega)
   have w2:=hs2.2 j (show j<m1 by omega)
   rw [Sto.get_mk (show j<m1 by omega),Sto.get_mk (show j<n0+1+1 by omega)]at w1
   rw [Sto.get_mk (show j<m2 by omega),Sto.get_mk (show j<m1 by omega)]at w2
   rw [Sto.get_mk (show j<m2+1+1+1 by omega),Sto.get_mk hj',hk j (by omega),w2,w1];exact hol4.2 j hj'
  ·rw [Sto.get_mk (show m2+1+1<m2+1+1+1 by omega)];exact gp
  ·have h1':j<m2:=h1
   rw [Sto.get_mk (show j<m2+1+1+1 by omega),Sto.get_mk h1'];exact hk j h3
  ·show StN m2 (m2+1) _ _ (gC _ []);rw [hD];exact hD' m2 gd (by omega)
  ·show StN (m2+1) (m2+1+1) _ _ (gC _ []);rw [hD];exact hD' (m2+1) gg (by omega)
end
end
end Go.Proofs.YtkocnhkbgcjpbaaGreat
