/-
  The references: whether lists, worlds and states are alike.
-/
import Derived.Test.YtginbapbkjhnjaaGreatQi
set_option linter.unusedVariables false
set_option linter.unusedSimpArgs false
namespace Go.Proofs.YtginbapbkjhnjaaGreat
open Go.Abs Go Go.Abs.TryzF
noncomputable section
set_option maxRecDepth 10000
def gR (a b:List AV):Bool:=decide (a.map AV.num=b.map AV.num)
theorem JA {n m:Int} {a b:List AV}:gR (.int .i64 n::a) (.int .i64 m::b)=(decide (n=m)&&gR a b):=by
 simp only [gR,List.map_cons,List.cons.injEq]
 rw [Bool.decide_and];rfl
theorem PB {a b:List AV} (h:¬ a.length=b.length):gR a b=false:=by
 simp only [gR,decide_eq_false_iff_not]
 intro e;have:=congrArg List.length e;simp at this;exact h this
theorem aHe {x y:Operand} {k n k' n':Int}:kV Tryz.prog .neq 75 x y (.agg [.int .i64 k,.int .i64 n]) (.agg [.int .i64 k',.int .i64 n'])=true:=by kernel_rfl
theorem aHf {k n k' n':Int}:BN Tryz.prog 10000 75 (.agg [.int .i64 k,.int .i64 n]) (.agg [.int .i64 k',.int .i64 n'])=some (decide (k=k'/\n=n')):=by
 have h2:BN Tryz.prog 10000 75 (.agg [.int .i64 k,.int .i64 n]) (.agg [.int .i64 k',.int .i64 n'])=aeqs Tryz.prog (BN Tryz.prog 9999) [.int .i64 k,.int .i64 n] [.int .i64 k',.int .i64 n'] [(3,0),(3,1)]:=by kernel_rfl
 have q4:∀ {k k':Int},BN Tryz.prog 9999 3 (.int .i64 k) (.int .i64 k')=some (jJ k k'):=by intro _ _;kernel_rfl
 have q5:∀ {k k':AV},iE Tryz.prog 3 [k,k'] 0=some k:=by intro _ _;kernel_rfl
 have q6:∀ {k k':AV},iE Tryz.prog 3 [k,k'] 1=some k':=by intro _ _;kernel_rfl
 rw [h2]
 simp only [aeqs,q4,q5,q6,dT]
 have hb:∀ a b:Int,(a==b)=decide (a=b):=fun a b=>rfl
 rw [hb,hb,Bool.decide_and]
 cases decide (k=k')<;>cases decide (n=n')<;>rfl
theorem TN {x y:Operand} {k n k' n':Int}:bX Tryz.prog .neq 75 x y (.agg [.int .i64 k,.int .i64 n]) (.agg [.int .i64 k',.int .i64 n'])=some (.bool (!decide (k=k'/\n=n'))):=by
 simp only [bX,aHe,cond_true,aHf]
abbrev BV:List AV->Option AV:=rV (fun a b=>fF a/\fF b) fun a b=>.bool (gR a.els b.els)
set_option maxHeartbeats 1000000 in
theorem rsameInts_ok:Abs.Ok Tryz.prog 27 BV:=ok2 fun a b ⟨ha,hb⟩=>by
 have hua:=(aP a ha).1
 have hub:=(aP b hb).1
 obtain ⟨xs,hs,hxs⟩:=ha
 obtain ⟨ys,hy,hys⟩:=hb
 rw [hs.els,hy.els]
 refine aH (L:=[]) aG aO (by kernel_rfl) Tryz.func27 Tryz.ntmps27 Tryz.results27 rfl rfl (aA hua.und (aA hub.und aF)) aL ?_
 by_cases k0:((xs.length:Nat):Int)=((ys.length:Nat):Int)
 rotate_left
 ·rw [PB (by omega)]
  simp +contextual +decide (maxSteps:=1000000) only [↓ wP,wQ,tf,Nat.reduceAdd,wS,reduceCtorEq,hs.len,hy.len,k0]
 have k1:xs.length=ys.length:=by omega
 have hsp:∃ W,W=gR xs ys:=⟨_,rfl⟩
 obtain ⟨W,hsp⟩:=hsp
 rw [<-hsp]
 simp +contextual +decide (maxSteps:=1000000) only [↓ wP,wQ,tf,Nat.reduceAdd,wS,reduceCtorEq,hs.len,hy.len,k0]
 refine bA (fun i e=>∃ t n low o,e=⟨26,none,27,t,[],⟨n,low,o⟩,.no⟩/\t.val 0=a/\t.val 1=b/\t.val 5=.int .i64 (i:Nat)/\0<=n/\i<=xs.length/\W=gR (xs.drop i) (ys.drop i)) (fun i=>xs.length-i) 0 ⟨_,_,_,_,rfl,by simp +decide only [↓ aC,aE,aD],by simp +decide only [↓ aC,aE,aD],by simp +decide only [↓ aC,aE,aD];rfl,by omega,Nat.zero_le _,hsp⟩ ?_
 rintro i _ ⟨t,n,low,o,rfl,t0,t1,t5,hn,hi,hq⟩
 rcases Nat.lt_or_ge i xs.length with hlt | hge
 ·obtain ⟨y,hDy,hm,hg,hd,hix,hw,hc⟩:=bO (fun x h=>tu_int.len h) hxs hs.2 hlt
  obtain ⟨y',hDy',hm',hg',hd',hix',hw',hc'⟩:=bO (fun x h=>tu_int.len h) hys hy.2 (by omega:i<ys.length)
  have hpf:=fun {d:Option AV}=>tu_int.pf hDy (d:=d)
  have hpf':=fun {d:Option AV}=>tu_int.pf hDy' (d:=d)
  obtain ⟨n,rfl⟩:=hDy
  obtain ⟨n',rfl⟩:=hDy'
  rw [hd,hd',JA]at hq
  by_cases k2:n=n'
  ·rw [decide_eq_true k2,Bool.true_and]at hq
   subst k2
   simp +contextual +decide (maxSteps:=1000000) only [↓ wP,wQ,tf,Nat.reduceAdd,wS,reduceCtorEq,t0,t1,t5,hs.len,hs.idx,hy.idx,hix,hix',hc,hc',hpf,hpf',hw,hw]
   exact ⟨i+1,by show _-_<_-_;omega,_,_,_,_,rfl,by simp +decide only [↓ aC,aE,aD,t0],by simp +decide only [↓ aC,aE,aD,t1],by simp +decide only [↓ aC,aE,aD],by omega,hlt,hq⟩
  ·rw [decide_eq_false k2,Bool.false_and]at hq
   simp +contextual +decide (maxSteps:=1000000) only [↓ wP,wQ,tf,Nat.reduceAdd,wS,reduceCtorEq,t0,t1,t5,hs.len,hs.idx,hy.idx,hix,hix',hc,hc',hpf,hpf',hw,k2,hq]
 ·obtain rfl:i=xs.length:=Nat.le_antisymm hi hge
  rw [List.drop_length,k1,List.drop_length]at hq
  rw [show gR [] []=true from rfl]at hq
  simp +contextual +decide (maxSteps:=1000000) only [↓ wP,wQ,tf,Nat.reduceAdd,wS,reduceCtorEq,t0,t1,t5,hs.len,bF,hq]
abbrev JB:List AV->Option AV:=rV (fun a b=>(TSl oP) a/\(TSl oP) b) fun a b=>.bool (cG a.els b.els)
set_option maxHeartbeats 1000000 in
theorem rsameOuts_ok:Abs.Ok Tryz.prog 28 JB:=ok2 fun a b ⟨ha,hb⟩=>by
 have hua:=(cV a ha).1
 have hub:=(cV b hb).1
 obtain ⟨xs,hs,hxs⟩:=ha
 obtain ⟨ys,hy,hys⟩:=hb
 rw [hs.els,hy.els]
 refine aH (L:=[]) aG aO (by kernel_rfl) Tryz.func28 Tryz.ntmps28 Tryz.results28 rfl rfl (aA hua.und (aA hub.und aF)) aL ?_
 by_cases k0:((xs.length:Nat):Int)=((ys.length:Nat):Int)
 rotate_left
 ·rw [AQ (by omega)]
  simp +contextual +decide (maxSteps:=1000000) only [↓ wP,wQ,tf,Nat.reduceAdd,wS,reduceCtorEq,hs.len,hy.len,k0]
 have k1:xs.length=ys.length:=by omega
 have hsp:∃ W,W=cG xs ys:=⟨_,rfl⟩
 obtain ⟨W,hsp⟩:=hsp
 rw [<-hsp]
 simp +contextual +decide (maxSteps:=1000000) only [↓ wP,wQ,tf,Nat.reduceAdd,wS,reduceCtorEq,hs.len,hy.len,k0]
 refine bA (fun i e=>∃ t n low o,e=⟨26,none,28,t,[],⟨n,low,o⟩,.no⟩/\t.val 0=a/\t.val 1=b/\t.val 5=.int .i64 (i:Nat)/\0<=n/\i<=xs.length/\W=cG (xs.drop i) (ys.drop i)) (fun i=>xs.length-i) 0 ⟨_,_,_,_,rfl,by simp +decide only [↓ aC,aE,aD],by simp +decide only [↓ aC,aE,aD],by simp +decide only [↓ aC,aE,aD];rfl,by omega,Nat.zero_le _,hsp⟩ ?_
 rintro i _ ⟨t,n,low,o,rfl,t0,t1,t5,hn,hi,hq⟩
 rcases Nat.lt_or_ge i xs.length with hlt | hge
 ·obtain ⟨y,hDy,hm,hg,hd,hix,hw,hc⟩:=bO (fun x h=>tk_out.len h) hxs hs.2 hlt
  obtain ⟨y',hDy',hm',hg',hd',hix',hw',hc'⟩:=bO (fun x h=>tk_out.len h) hys hy.2 (by omega:i<ys.length)
  have hpf:=fun {d:Option AV}=>tk_out.pf hDy (d:=d)
  have hpf':=fun {d:Option AV}=>tk_out.pf hDy' (d:=d)
  obtain ⟨_,_,rfl,⟨k,rfl⟩,⟨n',rfl⟩⟩:=hDy
  obtain ⟨_,_,rfl,⟨k',rfl⟩,⟨m',rfl⟩⟩:=hDy'
  rw [hd,hd',xI]at hq
  by_cases k2:k=k'/\n'=m'
  ·rw [decide_eq_true k2,Bool.true_and]at hq
   obtain ⟨rfl,rfl⟩:=k2
   simp +contextual +decide (maxSteps:=1000000) only [↓ wP,wQ,tf,Nat.reduceAdd,wS,reduceCtorEq,t0,t1,t5,hs.len,hs.idx,hy.idx,hix,hix',hc,hc',hpf,hpf',TN,hw]
   exact ⟨i+1,by show _-_<_-_;omega,_,_,_,_,rfl,by simp +decide only [↓ aC,aE,aD,t0],by simp +decide only [↓ aC,aE,aD,t1],by simp +decide only [↓ aC,aE,aD],by omega,hlt,hq⟩
  ·rw [decide_eq_false k2,Bool.false_and]at hq
   simp +contextual +decide (maxSteps:=1000000) only [↓ wP,wQ,tf,Nat.reduceAdd,wS,reduceCtorEq,t0,t1,t5,hs.len,hs.idx,hy.idx,hix,hix',hc,hc',hpf,hpf',TN,k2,hq]
 ·obtain rfl:i=xs.length:=Nat.le_antisymm hi hge
  rw [List.drop_length,k1,List.drop_length]at hq
  rw [show cG [] []=true from rfl]at hq
  simp +contextual +decide (maxSteps:=1000000) only [↓ wP,wQ,tf,Nat.reduceAdd,wS,reduceCtorEq,t0,t1,t5,hs.len,bF,hq]
def cZ:List AV->List AV->Bool
 | [],[]=>true
 | a::l,b::m=>qY a b&&cZ l m
 | _,_=>false
def rL (w w':AV):Bool:=decide ((w.fld 0).els.length=(w'.fld 0).els.length)&&(gR (w.fld 1).els (w'.fld 1).els&&(cG (w.fld 2).els (w'.fld 2).els&&(gR (w.fld 3).els (w'.fld 3).els&&(decide ((w.fld 4).num=(w'.fld 4).num)&&cZ (w.fld 0).els (w'.fld 0).els))))
abbrev JC:List AV->Option AV:=rV (fun a b=>AX a/\AX b) fun a b=>.bool (rL a b)
set_option maxHeartbeats 4000000 in
theorem rsameW_ok:Abs.Ok Tryz.prog 21 JC:=ok2 fun a b ⟨ha,hb⟩=>by
 have hua:=(eR a ha).1
 have hub:=(eR b hb).1
 obtain ⟨os,ts,us,is,_,rfl,h1,h2,h3,h4,⟨no,rfl⟩⟩:=ha
 obtain ⟨os',ts',us',is',_,rfl,h1',h2',h3',h4',⟨no',rfl⟩⟩:=hb
 have c1:=(fM _ h1).2
 have c2:=(aP _ h2).2
 have c3:=(cV _ h3).2
 have c4:=(aP _ h4).2
 have c1':=(fM _ h1').2
 have c2':=(aP _ h2').2
 have c3':=(cV _ h3').2
 have c4':=(aP _ h4').2
 have e1:BV [ts,ts']=some (.bool (gR ts.els ts'.els)):=sg2_eq ⟨h2,h2'⟩
 have e2:JB [us,us']=some (.bool (cG us.els us'.els)):=sg2_eq ⟨h3,h3'⟩
 have e3:BV [is,is']=some (.bool (gR is.els is'.els)):=sg2_eq ⟨h4,h4'⟩
 obtain ⟨xo,ho,hox⟩:=h1
 obtain ⟨xo',ho',hox'⟩:=h1'
 have hsp:rL (.agg [os,ts,us,is,.int .i64 no]) (.agg [os',ts',us',is',.int .i64 no'])=(decide (xo.length=xo'.length)&&(gR ts.els ts'.els&&(cG us.els us'.els&&(gR is.els is'.els&&(decide (no=no')&&cZ xo xo'))))):=by
  rw [<-ho.els,<-ho'.els];rfl
 rw [hsp]
 clear hsp
 refine aH (L:=[ent 27 BV,ent 28 JB,ent 57 JM]) (elist_cons rsameInts_ok.ent (elist_cons rsameOuts_ok.ent (elist_cons rsameObj_ok.ent aG))) (fun r=>(bif Nat.beq r 6 then [10] else [],[])) (by kernel_rfl) Tryz.func21 Tryz.ntmps21 Tryz.results21 rfl rfl (aA hua.und (aA hub.und aF)) aL ?_
 by_cases k0:xo.length=xo'.length
 rotate_left
 ·have k0':(((xo.length:Nat):Int)=((xo'.length:Nat):Int))=False:=eq_false (by omega)
  rw [decide_eq_false k0]
  simp +contextual +decide (maxSteps:=1000000) only [↓ wP,wQ,tf,Nat.reduceAdd,wS,reduceCtorEq,c1,c2,c3,c4,c1',c2',c3',c4',ho.len,ho'.len,k0']
 have k0':(((xo.length:Nat):Int)=((xo'.length:Nat):Int))=True:=eq_true (by omega)
 rw [decide_eq_true k0,Bool.true_and]
 cases k1:gR ts.els ts'.els with
 | false=>simp +contextual +decide (maxSteps:=1000000) only [↓ wP,wQ,tf,Nat.reduceAdd,wS,reduceCtorEq,c1,c2,c3,c4,c1',c2',c3',c4',ho.len,ho'.len,k0',e1,k1]
 | true=>
 cases k2:cG us.els us'.els with
 | false=>simp +contextual +decide (maxSteps:=1000000) only [↓ wP,wQ,tf,Nat.reduceAdd,wS,reduceCtorEq,c1,c2,c3,c4,c1',c2',c3',c4',ho.len,ho'.len,k0',e1,k1,e2,k2]
 | true=>
 cases k3:gR is.els is'.els with
 | false=>simp +contextual +decide (maxSteps:=1000000) only [↓ wP,wQ,tf,Nat.reduceAdd,wS,reduceCtorEq,c1,c2,c3,c4,c1',c2',c3',c4',ho.len,ho'.len,k0',e1,k1,e2,k2,e3,k3]
 | true=>
 by_cases k4:no=no'
 rotate_left
 ·rw [decide_eq_false k4]
  simp +contextual +decide (maxSteps:=1000000) only [↓ wP,wQ,tf,Nat.reduceAdd,wS,reduceCtorEq,c1,c2,c3,c4,c1',c2',c3',c4',ho.len,ho'.len,k0',e1,k1,e2,k2,e3,k3,k4]
 rw [decide_eq_true k4,Bool.true_and,Bool.true_and,Bool.true_and,Bool.true_and]
 have hsp:∃ W,W=cZ xo xo':=⟨_,rfl⟩
 obtain ⟨W,hsp⟩:=hsp
 rw [<-hsp]
 simp +contextual +decide (maxSteps:=1000000) only [↓ wP,wQ,tf,Nat.reduceAdd,wS,reduceCtorEq,c1,c2,c3,c4,c1',c2',c3',c4',ho.len,ho'.len,k0',e1,k1,e2,k2,e3,k3,k4]
 refine bA (fun i e=>∃ t n low o,e=⟨63,none,21,t,[],⟨n,low,o⟩,.no⟩/\t.val 2=.ptr 0 0 0/\t.val 3=.ptr 1 0 0/\t.val 5=.int .i64 (i:Nat)/\o.get 0=some (bB 0 [os,ts,us,is,.int .i64 no])/\o.get 1=some (bB 0 [os',ts',us',is',.int .i64 no'])/\2<=n/\i<=xo.length/\W=cZ (xo.drop i) (xo'.drop i)) (fun i=>xo.length-i) 0 ⟨_,_,_,_,rfl,by simp +decide only [↓ aC,aE,aD,k4],by simp +decide only [↓ aC,aE,aD,k4],by simp +decide only [↓ aC,aE,aD,k4];rfl,by simp +decide only [↓ aC,aJ,aD,ne_eq,k4],by simp +decide only [↓ aC,aJ,aD,ne_eq,k4],by omega,Nat.zero_le _,hsp⟩ ?_
 rintro i _ ⟨t,n,low,o,rfl,t2,t3,t5,g0,g1,hn,hi,hq⟩
 have f0:=eA (show 0<n by omega)
 have f1:=eA (show 1<n by omega)
 rcases Nat.lt_or_ge i xo.length with hlt | hge
 ·obtain ⟨x,hDx,_,_,hd,hix,hw,k5⟩:=bO (fun x h=>tk_ob.len h) hox ho.2 hlt
  obtain ⟨x',hDx',_,_,hd',hix',_,_⟩:=bO (fun x h=>tk_ob.len h) hox' ho'.2 (show i<xo'.length by omega)
  have hpx:=fun {d:Option AV}=>tk_ob.pf hDx (d:=d)
  have hpx':=fun {d:Option AV}=>tk_ob.pf hDx' (d:=d)
  have b2:JM [x,x']=some (.bool (qY x x')):=sg2_eq ⟨hDx,hDx'⟩
  have s1:=fun {Y:Nat->Prop}=>ho.stab (Y:=Y)
  have s2:=fun {Y:Nat->Prop}=>ho'.stab (Y:=Y)
  rw [hd,hd',cZ]at hq
  cases k6:qY x x' with
  | false=>
    rw [k6,Bool.false_and]at hq
    simp +contextual +decide (maxSteps:=1000000) only [↓ wP,wQ,tf,Nat.reduceAdd,wS,reduceCtorEq,t2,t3,t5,g0,g1,f0,f1,c1,c2,c3,c4,c1',c2',c3',c4',ho.len,ho'.len,ho.idx,ho'.idx,hix,hix',hpx,hpx',k5,b2,k6,s1,s2,hq]
  | true=>
    rw [k6,Bool.true_and]at hq
    simp +contextual +decide (maxSteps:=1000000) only [↓ wP,wQ,tf,Nat.reduceAdd,wS,reduceCtorEq,t2,t3,t5,g0,g1,f0,f1,c1,c2,c3,c4,c1',c2',c3',c4',ho.len,ho'.len,ho.idx,ho'.idx,hix,hix',hpx,hpx',k5,b2,k6,s1,s2,hw]
    exact ⟨i+1,by show _-_<_-_;omega,_,_,_,_,rfl,by simp +decide only [↓ aC,aE,aD,t2],by simp +decide only [↓ aC,aE,aD,t3],by simp +decide only [↓ aC,aE,aD],by simp +decide only [↓ aC,aJ,aD,ne_eq,g0,g1,f0,f1,dO],by simp +decide only [↓ aC,aJ,aD,ne_eq,g0,g1,f0,f1,dO],by omega,hlt,hq⟩
 ·obtain rfl:i=xo.length:=Nat.le_antisymm hi hge
  rw [List.drop_length,k0,List.drop_length]at hq
  rw [show cZ [] []=true from rfl]at hq
  simp +contextual +decide (maxSteps:=1000000) only [↓ wP,wQ,tf,Nat.reduceAdd,wS,reduceCtorEq,t2,t3,t5,g0,g1,f0,f1,c1,c2,c3,c4,ho.len,bF,hq]
theorem JD (f:AV):AR f f=true:=by simp [AR,cG]
theorem vE:∀ l:List AV,jC l l=true
 | []=>rfl
 | f::l=>by rw [jC,JD,vE l];rfl
theorem JE (a:AV):qY a a=true:=by simp [qY,cG,vE]
theorem vF:∀ l:List AV,cZ l l=true
 | []=>rfl
 | f::l=>by rw [cZ,JE,vF l];rfl
theorem nB (l:List AV):gR l l=true:=by simp [gR]
theorem xH (l:List AV):cG l l=true:=by simp [cG]
section
variable {p os ts us is no ns fs mm cs os' ts' us' is' no' d g:AV}
end
section
variable {p os ts us is no:AV}
end
section
variable {p os ts us is no os' ts' us' is' no' d g:AV}
def IsS (r:AV) (xo xt xu xi:List AV) (no:AV) (xo' xt' xu' xi':List AV) (no':AV) (xd xg:List AV):Prop:=∃ os ts us is os' ts' us' is' d g,r=stg os ts us is no os' ts' us' is' no' d g/\SG os ts us is no os' ts' us' is' no' d g/\os.els=xo/\ts.els=xt/\us.els=xu/\is.els=xi/\os'.els=xo'/\ts'.els=xt'/\us'.els=xu'/\is'.els=xi'/\d.els=xd/\g.els=xg
end
section
variable {p os ts us is no os' ts' us' is' no' d g:AV}
structure ApW (s:Sto) (os ts us is:AV) (xo xt xu xi:List AV):Prop where
 o:ApY s 4 os xo
 t:ApY s 1 ts xt
 u:ApY s 2 us xu
 i:ApY s 1 is xi
 lo:xo.length<=1000
 lt:xt.length<=1000
 lu:xu.length<=1000
 li:xi.length<=1000
 ho:∀ x∈xo,vM x
 ht:∀ x∈xt,cD x
 hu:∀ x∈xu,oP x
 hi:∀ x∈xi,cD x
end
section
variable {p os ts us is no os' ts' us' is' no' d g:AV}
end
theorem IsS.st {r:AV} {xo xt xu xi xo' xt' xu' xi' xd xg:List AV} {no no':AV} (h:IsS r xo xt xu xi no xo' xt' xu' xi' no' xd xg):aEq r:=by
 obtain ⟨os,ts,us,is,os',ts',us',is',d,g,rfl,h,_⟩:=h
 exact ⟨os,ts,us,is,no,os',ts',us',is',no',d,g,rfl,h⟩
section
variable {p os ts us is no os' ts' us' is' no' d g:AV}
end
end
end Go.Proofs.YtginbapbkjhnjaaGreat
