/-
  The references: whether lists, worlds and states are alike.
-/
import Derived.Test.YtifmdaalhclhgaaGreatQi
set_option linter.unusedVariables false
set_option linter.unusedSimpArgs false
namespace Go.Proofs.YtifmdaalhclhgaaGreat
open Go.Abs Go Go.Abs.TryzF
noncomputable section
set_option maxRecDepth 10000
def cI (a b:List AV):Bool:=decide (a.map AV.num=b.map AV.num)
theorem zD {n m:Int} {a b:List AV}:cI (.int .i64 n::a) (.int .i64 m::b)=(decide (n=m)&&cI a b):=by
 simp only [cI,List.map_cons,List.cons.injEq];rw [Bool.decide_and];rfl
theorem CP {a b:List AV} (h:¬ a.length=b.length):cI a b=false:=by
 simp only [cI,decide_eq_false_iff_not];intro e;have:=congrArg List.length e;simp at this;exact h this
theorem aKl {x y:Operand} {k n k' n':Int}:mF Tryz.prog .neq 146 x y (.agg [.int .i64 k,.int .i64 n]) (.agg [.int .i64 k',.int .i64 n'])=true:=by kernel_rfl
theorem aKm {k n k' n':Int}:DN Tryz.prog 10000 146 (.agg [.int .i64 k,.int .i64 n]) (.agg [.int .i64 k',.int .i64 n'])=some (decide (k=k'/\n=n')):=by
 have h2:DN Tryz.prog 10000 146 (.agg [.int .i64 k,.int .i64 n]) (.agg [.int .i64 k',.int .i64 n'])=aeqs Tryz.prog (DN Tryz.prog 9999) [.int .i64 k,.int .i64 n] [.int .i64 k',.int .i64 n'] [(3,0),(3,1)]:=by kernel_rfl
 have q4:∀ {k k':Int},DN Tryz.prog 9999 3 (.int .i64 k) (.int .i64 k')=some (kP k k'):=by intro _ _;kernel_rfl
 have q5:∀ {k k':AV},jG Tryz.prog 3 [k,k'] 0=some k:=by intro _ _;kernel_rfl
 have q6:∀ {k k':AV},jG Tryz.prog 3 [k,k'] 1=some k':=by intro _ _;kernel_rfl
 rw [h2];simp only [aeqs,q4,q5,q6,eN]
 have hb:∀ a b:Int,(a==b)=decide (a=b):=fun a b=>rfl
 rw [hb,hb,Bool.decide_and];cases decide (k=k')<;>cases decide (n=n')<;>rfl
theorem DS {x y:Operand} {k n k' n':Int}:cU Tryz.prog .neq 146 x y (.agg [.int .i64 k,.int .i64 n]) (.agg [.int .i64 k',.int .i64 n'])=some (.bool (!decide (k=k'/\n=n'))):=by
 simp only [cU,aKl,cond_true,aKm]
abbrev gA:List AV->Option AV:=oU (fun a b=>eU a/\eU b) fun a b=>.bool (cI a.els b.els)
set_option maxHeartbeats 1000000 in
theorem rsameInts_ok:Abs.Ok Tryz.prog 35 gA:=ok2 fun a b ⟨ha,hb⟩=>by
 have hua:=(aP a ha).1;have hub:=(aP b hb).1;obtain ⟨xs,hs,hxs⟩:=ha;obtain ⟨ys,hy,hys⟩:=hb;rw [hs.els,hy.els];refine aG (L:=[]) aH aM (by kernel_rfl) Tryz.func35 Tryz.ntmps35 Tryz.results35 rfl rfl (aA hua.und (aA hub.und aF)) aJ ?_
 by_cases k0:((xs.length:Nat):Int)=((ys.length:Nat):Int)
 rotate_left
 ·rw [CP (by omega)]
  simp +contextual +decide (maxSteps:=1000000) only [↓ wP,wQ,tf,Nat.reduceAdd,wS,reduceCtorEq,hs.len,hy.len,k0]
 have k1:xs.length=ys.length:=by omega
 have hsp:∃ W,W=cI xs ys:=⟨_,rfl⟩
 obtain ⟨W,hsp⟩:=hsp;rw [<-hsp];simp +contextual +decide (maxSteps:=1000000) only [↓ wP,wQ,tf,Nat.reduceAdd,wS,reduceCtorEq,hs.len,hy.len,k0];refine aR (fun i e=>∃ t n low o,e=⟨26,none,35,t,[],⟨n,low,o⟩,.no⟩/\t.val 0=a/\t.val 1=b/\t.val 5=.int .i64 (i:Nat)/\0<=n/\i<=xs.length/\W=cI (xs.drop i) (ys.drop i)) (fun i=>xs.length-i) 0 ⟨_,_,_,_,rfl,by simp +decide only [↓ aB,aE,aC],by simp +decide only [↓ aB,aE,aC],by simp +decide only [↓ aB,aE,aC];rfl,by omega,Nat.zero_le _,hsp⟩ ?_;rintro i _ ⟨t,n,low,o,rfl,t0,t1,t5,hn,hi,hq⟩
 rcases Nat.lt_or_ge i xs.length with hlt | hge
 ·obtain ⟨y,hDy,hm,hg,hd,hix,hw,hc⟩:=bB (fun x h=>tu_int.len h) hxs hs.2 hlt
  obtain ⟨y',hDy',hm',hg',hd',hix',hw',hc'⟩:=bB (fun x h=>tu_int.len h) hys hy.2 (by omega:i<ys.length)
  have hpf:=fun {d:Option AV}=>tu_int.pf hDy (d:=d)
  have hpf':=fun {d:Option AV}=>tu_int.pf hDy' (d:=d)
  obtain ⟨n,rfl⟩:=hDy;obtain ⟨n',rfl⟩:=hDy';rw [hd,hd',zD]at hq;by_cases k2:n=n'
  ·rw [decide_eq_true k2,Bool.true_and]at hq
   subst k2;simp +contextual +decide (maxSteps:=1000000) only [↓ wP,wQ,tf,Nat.reduceAdd,wS,reduceCtorEq,t0,t1,t5,hs.len,hs.idx,hy.idx,hix,hix',hc,hc',hpf,hpf',hw,hw];exact ⟨i+1,by show _-_<_-_;omega,_,_,_,_,rfl,by simp +decide only [↓ aB,aE,aC,t0],by simp +decide only [↓ aB,aE,aC,t1],by simp +decide only [↓ aB,aE,aC],by omega,hlt,hq⟩
  ·rw [decide_eq_false k2,Bool.false_and]at hq
   simp +contextual +decide (maxSteps:=1000000) only [↓ wP,wQ,tf,Nat.reduceAdd,wS,reduceCtorEq,t0,t1,t5,hs.len,hs.idx,hy.idx,hix,hix',hc,hc',hpf,hpf',hw,k2,hq]
 ·obtain rfl:i=xs.length:=Nat.le_antisymm hi hge
  rw [List.drop_length,k1,List.drop_length]at hq;rw [show cI [] []=true from rfl]at hq;simp +contextual +decide (maxSteps:=1000000) only [↓ wP,wQ,tf,Nat.reduceAdd,wS,reduceCtorEq,t0,t1,t5,hs.len,aS,hq]
abbrev nA:List AV->Option AV:=oU (fun a b=>(TSl lB) a/\(TSl lB) b) fun a b=>.bool (bK a.els b.els)
set_option maxHeartbeats 1000000 in
theorem rsameOuts_ok:Abs.Ok Tryz.prog 36 nA:=ok2 fun a b ⟨ha,hb⟩=>by
 have hua:=(bV a ha).1;have hub:=(bV b hb).1;obtain ⟨xs,hs,hxs⟩:=ha;obtain ⟨ys,hy,hys⟩:=hb;rw [hs.els,hy.els];refine aG (L:=[]) aH aM (by kernel_rfl) Tryz.func36 Tryz.ntmps36 Tryz.results36 rfl rfl (aA hua.und (aA hub.und aF)) aJ ?_
 by_cases k0:((xs.length:Nat):Int)=((ys.length:Nat):Int)
 rotate_left
 ·rw [rR (by omega)]
  simp +contextual +decide (maxSteps:=1000000) only [↓ wP,wQ,tf,Nat.reduceAdd,wS,reduceCtorEq,hs.len,hy.len,k0]
 have k1:xs.length=ys.length:=by omega
 have hsp:∃ W,W=bK xs ys:=⟨_,rfl⟩
 obtain ⟨W,hsp⟩:=hsp;rw [<-hsp];simp +contextual +decide (maxSteps:=1000000) only [↓ wP,wQ,tf,Nat.reduceAdd,wS,reduceCtorEq,hs.len,hy.len,k0];refine aR (fun i e=>∃ t n low o,e=⟨26,none,36,t,[],⟨n,low,o⟩,.no⟩/\t.val 0=a/\t.val 1=b/\t.val 5=.int .i64 (i:Nat)/\0<=n/\i<=xs.length/\W=bK (xs.drop i) (ys.drop i)) (fun i=>xs.length-i) 0 ⟨_,_,_,_,rfl,by simp +decide only [↓ aB,aE,aC],by simp +decide only [↓ aB,aE,aC],by simp +decide only [↓ aB,aE,aC];rfl,by omega,Nat.zero_le _,hsp⟩ ?_;rintro i _ ⟨t,n,low,o,rfl,t0,t1,t5,hn,hi,hq⟩
 rcases Nat.lt_or_ge i xs.length with hlt | hge
 ·obtain ⟨y,hDy,hm,hg,hd,hix,hw,hc⟩:=bB (fun x h=>tk_out.len h) hxs hs.2 hlt
  obtain ⟨y',hDy',hm',hg',hd',hix',hw',hc'⟩:=bB (fun x h=>tk_out.len h) hys hy.2 (by omega:i<ys.length)
  have hpf:=fun {d:Option AV}=>tk_out.pf hDy (d:=d)
  have hpf':=fun {d:Option AV}=>tk_out.pf hDy' (d:=d)
  obtain ⟨_,_,rfl,⟨k,rfl⟩,⟨n',rfl⟩⟩:=hDy;obtain ⟨_,_,rfl,⟨k',rfl⟩,⟨m',rfl⟩⟩:=hDy';rw [hd,hd',oP]at hq;by_cases k2:k=k'/\n'=m'
  ·rw [decide_eq_true k2,Bool.true_and]at hq
   obtain ⟨rfl,rfl⟩:=k2;simp +contextual +decide (maxSteps:=1000000) only [↓ wP,wQ,tf,Nat.reduceAdd,wS,reduceCtorEq,t0,t1,t5,hs.len,hs.idx,hy.idx,hix,hix',hc,hc',hpf,hpf',DS,hw];exact ⟨i+1,by show _-_<_-_;omega,_,_,_,_,rfl,by simp +decide only [↓ aB,aE,aC,t0],by simp +decide only [↓ aB,aE,aC,t1],by simp +decide only [↓ aB,aE,aC],by omega,hlt,hq⟩
  ·rw [decide_eq_false k2,Bool.false_and]at hq
   simp +contextual +decide (maxSteps:=1000000) only [↓ wP,wQ,tf,Nat.reduceAdd,wS,reduceCtorEq,t0,t1,t5,hs.len,hs.idx,hy.idx,hix,hix',hc,hc',hpf,hpf',DS,k2,hq]
 ·obtain rfl:i=xs.length:=Nat.le_antisymm hi hge
  rw [List.drop_length,k1,List.drop_length]at hq;rw [show bK [] []=true from rfl]at hq;simp +contextual +decide (maxSteps:=1000000) only [↓ wP,wQ,tf,Nat.reduceAdd,wS,reduceCtorEq,t0,t1,t5,hs.len,aS,hq]
def jN:List AV->List AV->Bool
 | [],[]=>true
 | a::l,b::m=>fX a b&&jN l m
 | _,_=>false
def sZ (w w':AV):Bool:=decide ((w.fld 0).els.length=(w'.fld 0).els.length)&&(cI (w.fld 1).els (w'.fld 1).els&&(bK (w.fld 2).els (w'.fld 2).els&&(cI (w.fld 3).els (w'.fld 3).els&&(decide ((w.fld 4).num=(w'.fld 4).num)&&jN (w.fld 0).els (w'.fld 0).els))))
abbrev LG:List AV->Option AV:=oU (fun a b=>oT a/\oT b) fun a b=>.bool (sZ a b)
set_option maxHeartbeats 4000000 in
theorem rsameW_ok:Abs.Ok Tryz.prog 16 LG:=ok2 fun a b ⟨ha,hb⟩=>by
 have hua:=(tk_wd a ha).1;have hub:=(tk_wd b hb).1;obtain ⟨os,ts,us,is,_,rfl,h1,h2,h3,h4,⟨no,rfl⟩⟩:=ha;obtain ⟨os',ts',us',is',_,rfl,h1',h2',h3',h4',⟨no',rfl⟩⟩:=hb;have c1:=(dQ _ h1).2;have c2:=(aP _ h2).2;have c3:=(bV _ h3).2;have c4:=(aP _ h4).2;have c1':=(dQ _ h1').2;have c2':=(aP _ h2').2;have c3':=(bV _ h3').2;have c4':=(aP _ h4').2;have e1:gA [ts,ts']=some (.bool (cI ts.els ts'.els)):=sg2_eq ⟨h2,h2'⟩;have e2:nA [us,us']=some (.bool (bK us.els us'.els)):=sg2_eq ⟨h3,h3'⟩;have e3:gA [is,is']=some (.bool (cI is.els is'.els)):=sg2_eq ⟨h4,h4'⟩;obtain ⟨xo,ho,hox⟩:=h1;obtain ⟨xo',ho',hox'⟩:=h1'
 have hsp:sZ (.agg [os,ts,us,is,.int .i64 no]) (.agg [os',ts',us',is',.int .i64 no'])=(decide (xo.length=xo'.length)&&(cI ts.els ts'.els&&(bK us.els us'.els&&(cI is.els is'.els&&(decide (no=no')&&jN xo xo'))))):=by
  rw [<-ho.els,<-ho'.els];rfl
 rw [hsp];clear hsp;refine aG (L:=[ent 35 gA,ent 36 nA,ent 37 qI]) (elist_cons rsameInts_ok.ent (elist_cons rsameOuts_ok.ent (elist_cons rsameObj_ok.ent aH))) (fun r=>(bif Nat.beq r 6 then [10] else [],[])) (by kernel_rfl) Tryz.func16 Tryz.ntmps16 Tryz.results16 rfl rfl (aA hua.und (aA hub.und aF)) aJ ?_;by_cases k0:xo.length=xo'.length
 rotate_left
 ·have k0':(((xo.length:Nat):Int)=((xo'.length:Nat):Int))=False:=eq_false (by omega)
  rw [decide_eq_false k0];simp +contextual +decide (maxSteps:=1000000) only [↓ wP,wQ,tf,Nat.reduceAdd,wS,reduceCtorEq,c1,c2,c3,c4,c1',c2',c3',c4',ho.len,ho'.len,k0']
 have k0':(((xo.length:Nat):Int)=((xo'.length:Nat):Int))=True:=eq_true (by omega);rw [decide_eq_true k0,Bool.true_and]
 cases k1:cI ts.els ts'.els with
 | false=>simp +contextual +decide (maxSteps:=1000000) only [↓ wP,wQ,tf,Nat.reduceAdd,wS,reduceCtorEq,c1,c2,c3,c4,c1',c2',c3',c4',ho.len,ho'.len,k0',e1,k1]
 | true=>
 cases k2:bK us.els us'.els with
 | false=>simp +contextual +decide (maxSteps:=1000000) only [↓ wP,wQ,tf,Nat.reduceAdd,wS,reduceCtorEq,c1,c2,c3,c4,c1',c2',c3',c4',ho.len,ho'.len,k0',e1,k1,e2,k2]
 | true=>
 cases k3:cI is.els is'.els with
 | false=>simp +contextual +decide (maxSteps:=1000000) only [↓ wP,wQ,tf,Nat.reduceAdd,wS,reduceCtorEq,c1,c2,c3,c4,c1',c2',c3',c4',ho.len,ho'.len,k0',e1,k1,e2,k2,e3,k3]
 | true=>
 by_cases k4:no=no'
 rotate_left
 ·rw [decide_eq_false k4]
  simp +contextual +decide (maxSteps:=1000000) only [↓ wP,wQ,tf,Nat.reduceAdd,wS,reduceCtorEq,c1,c2,c3,c4,c1',c2',c3',c4',ho.len,ho'.len,k0',e1,k1,e2,k2,e3,k3,k4]
 rw [decide_eq_true k4,Bool.true_and,Bool.true_and,Bool.true_and,Bool.true_and]
 have hsp:∃ W,W=jN xo xo':=⟨_,rfl⟩
 obtain ⟨W,hsp⟩:=hsp;rw [<-hsp];simp +contextual +decide (maxSteps:=1000000) only [↓ wP,wQ,tf,Nat.reduceAdd,wS,reduceCtorEq,c1,c2,c3,c4,c1',c2',c3',c4',ho.len,ho'.len,k0',e1,k1,e2,k2,e3,k3,k4];refine aR (fun i e=>∃ t n low o,e=⟨63,none,16,t,[],⟨n,low,o⟩,.no⟩/\t.val 2=.ptr 0 0 0/\t.val 3=.ptr 1 0 0/\t.val 5=.int .i64 (i:Nat)/\o.get 0=some (bA 0 [os,ts,us,is,.int .i64 no])/\o.get 1=some (bA 0 [os',ts',us',is',.int .i64 no'])/\2<=n/\i<=xo.length/\W=jN (xo.drop i) (xo'.drop i)) (fun i=>xo.length-i) 0 ⟨_,_,_,_,rfl,by simp +decide only [↓ aB,aE,aC,k4],by simp +decide only [↓ aB,aE,aC,k4],by simp +decide only [↓ aB,aE,aC,k4];rfl,by simp +decide only [↓ aB,aI,aC,ne_eq,k4],by simp +decide only [↓ aB,aI,aC,ne_eq,k4],by omega,Nat.zero_le _,hsp⟩ ?_;rintro i _ ⟨t,n,low,o,rfl,t2,t3,t5,g0,g1,hn,hi,hq⟩;have f0:=cZ (show 0<n by omega);have f1:=cZ (show 1<n by omega)
 rcases Nat.lt_or_ge i xo.length with hlt | hge
 ·obtain ⟨x,hDx,_,_,hd,hix,hw,k5⟩:=bB (fun x h=>tk_ob.len h) hox ho.2 hlt
  obtain ⟨x',hDx',_,_,hd',hix',_,_⟩:=bB (fun x h=>tk_ob.len h) hox' ho'.2 (show i<xo'.length by omega)
  have hpx:=fun {d:Option AV}=>tk_ob.pf hDx (d:=d)
  have hpx':=fun {d:Option AV}=>tk_ob.pf hDx' (d:=d)
  have b2:qI [x,x']=some (.bool (fX x x')):=sg2_eq ⟨hDx,hDx'⟩
  have s1:=fun {Y:Nat->Prop}=>ho.stab (Y:=Y)
  have s2:=fun {Y:Nat->Prop}=>ho'.stab (Y:=Y)
  rw [hd,hd',jN]at hq
  cases k6:fX x x' with
  | false=>
    rw [k6,Bool.false_and]at hq;simp +contextual +decide (maxSteps:=1000000) only [↓ wP,wQ,tf,Nat.reduceAdd,wS,reduceCtorEq,t2,t3,t5,g0,g1,f0,f1,c1,c2,c3,c4,c1',c2',c3',c4',ho.len,ho'.len,ho.idx,ho'.idx,hix,hix',hpx,hpx',k5,b2,k6,s1,s2,hq]
  | true=>
    rw [k6,Bool.true_and]at hq;simp +contextual +decide (maxSteps:=1000000) only [↓ wP,wQ,tf,Nat.reduceAdd,wS,reduceCtorEq,t2,t3,t5,g0,g1,f0,f1,c1,c2,c3,c4,c1',c2',c3',c4',ho.len,ho'.len,ho.idx,ho'.idx,hix,hix',hpx,hpx',k5,b2,k6,s1,s2,hw];exact ⟨i+1,by show _-_<_-_;omega,_,_,_,_,rfl,by simp +decide only [↓ aB,aE,aC,t2],by simp +decide only [↓ aB,aE,aC,t3],by simp +decide only [↓ aB,aE,aC],by simp +decide only [↓ aB,aI,aC,ne_eq,g0,g1,f0,f1,bM],by simp +decide only [↓ aB,aI,aC,ne_eq,g0,g1,f0,f1,bM],by omega,hlt,hq⟩
 ·obtain rfl:i=xo.length:=Nat.le_antisymm hi hge
  rw [List.drop_length,k0,List.drop_length]at hq;rw [show jN [] []=true from rfl]at hq;simp +contextual +decide (maxSteps:=1000000) only [↓ wP,wQ,tf,Nat.reduceAdd,wS,reduceCtorEq,t2,t3,t5,g0,g1,f0,f1,c1,c2,c3,c4,ho.len,aS,hq]
theorem LH (f:AV):kU f f=true:=by simp [kU,bK]
theorem xK:∀ l:List AV,dE l l=true
 | []=>rfl
 | f::l=>by rw [dE,LH,xK l];rfl
theorem LI (a:AV):fX a a=true:=by simp [fX,bK,xK]
theorem qD:∀ l:List AV,jN l l=true
 | []=>rfl
 | f::l=>by rw [jN,LI,qD l];rfl
theorem HK:∀ a b:List AV,jN (a.map dG) b=jN a b
 | [],[]=>rfl
 | [],_::_=>rfl
 | _::_,[]=>rfl
 | x::a,y::b=>by rw [List.map_cons,jN,jN,aCh,HK a b]
theorem oM (l:List AV):cI l l=true:=by simp [cI]
theorem zE (l:List AV):bK l l=true:=by simp [bK]
section
variable {p os ts us is no ns fs mm cs os' ts' us' is' no' d g:AV}
end
section
variable {p os ts us is no:AV}
end
section
variable {p os ts us is no os' ts' us' is' no' d g:AV}
def IsS (r:AV) (xo xt xu xi:List AV) (no:AV) (xo' xt' xu' xi':List AV) (no':AV) (xd xg:List AV):Prop:=∃ os ts us is os' ts' us' is' d g,r=stg os ts us is no os' ts' us' is' no' d g/\SG os ts us is no os' ts' us' is' no' d g/\os.els=xo/\ts.els=xt/\us.els=xu/\is.els=xi/\os'.els=xo'/\ts'.els=xt'/\us'.els=xu'/\is'.els=xi'/\d.els=xd/\g.els=xg
end
section
variable {p os ts us is no os' ts' us' is' no' d g:AV}
structure ApW (s:Sto) (os ts us is:AV) (xo xt xu xi:List AV):Prop where
 o:ApY s 4 os xo
 t:ApY s 1 ts xt
 u:ApY s 2 us xu
 i:ApY s 1 is xi
 lo:xo.length<=1000
 lt:xt.length<=1000
 lu:xu.length<=1000
 li:xi.length<=1000
 ho:∀ x∈xo,nC x
 ht:∀ x∈xt,cM x
 hu:∀ x∈xu,lB x
 hi:∀ x∈xi,cM x
end
section
variable {p os ts us is no os' ts' us' is' no' d g:AV}
end
theorem IsS.st {r:AV} {xo xt xu xi xo' xt' xu' xi' xd xg:List AV} {no no':AV} (h:IsS r xo xt xu xi no xo' xt' xu' xi' no' xd xg):aHn r:=by
 obtain ⟨os,ts,us,is,os',ts',us',is',d,g,rfl,h,_⟩:=h;exact ⟨os,ts,us,is,no,os',ts',us',is',no',d,g,rfl,h⟩
section
variable {p os ts us is no os' ts' us' is' no' d g:AV}
end
end
end Go.Proofs.YtifmdaalhclhgaaGreat
