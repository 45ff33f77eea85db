/-
  The references: whether lists, worlds and states are alike.
-/
import Derived.Test.YtifmdaalhclhgaaGreatQi
set_option linter.unusedVariables false
set_option linter.unusedSimpArgs false
namespace Go.Proofs.YtifmdaalhclhgaaGreat
open Go.Abs Go Go.Abs.TryzF
noncomputable section
set_option maxRecDepth 10000
def bS (a b:List AV):Bool:=decide (a.map AV.num=b.map AV.num)
theorem vE {n m:Int} {a b:List AV}:bS (.int .i64 n::a) (.int .i64 m::b)=(decide (n=m)&&bS a b):=by
 simp only [bS,List.map_cons,List.cons.injEq];rw [Bool.decide_and];rfl
theorem zA {a b:List AV} (h:¬ a.length=b.length):bS a b=false:=by
 simp only [bS,decide_eq_false_iff_not];intro e;have:=congrArg List.length e;simp at this;exact h this
theorem aRz {x y:Operand} {k n k' n':Int}:nH Tryz.prog .neq 146 x y (.agg [.int .i64 k,.int .i64 n]) (.agg [.int .i64 k',.int .i64 n'])=true:=by kernel_rfl
theorem aSa {k n k' n':Int}:HP Tryz.prog 10000 146 (.agg [.int .i64 k,.int .i64 n]) (.agg [.int .i64 k',.int .i64 n'])=some (decide (k=k'/\n=n')):=by
 have h2:HP Tryz.prog 10000 146 (.agg [.int .i64 k,.int .i64 n]) (.agg [.int .i64 k',.int .i64 n'])=aeqs Tryz.prog (HP Tryz.prog 9999) [.int .i64 k,.int .i64 n] [.int .i64 k',.int .i64 n'] [(3,0),(3,1)]:=by kernel_rfl
 have q4:∀ {k k':Int},HP Tryz.prog 9999 3 (.int .i64 k) (.int .i64 k')=some (lD k k'):=by intro _ _;kernel_rfl
 have q5:∀ {k k':AV},jQ Tryz.prog 3 [k,k'] 0=some k:=by intro _ _;kernel_rfl
 have q6:∀ {k k':AV},jQ Tryz.prog 3 [k,k'] 1=some k':=by intro _ _;kernel_rfl
 rw [h2];simp only [aeqs,q4,q5,q6,eT]
 have hb:∀ a b:Int,(a==b)=decide (a=b):=fun a b=>rfl
 rw [hb,hb,Bool.decide_and];cases decide (k=k')<;>cases decide (n=n')<;>rfl
theorem HZ {x y:Operand} {k n k' n':Int}:cZ Tryz.prog .neq 146 x y (.agg [.int .i64 k,.int .i64 n]) (.agg [.int .i64 k',.int .i64 n'])=some (.bool (!decide (k=k'/\n=n'))):=by
 simp only [cZ,aRz,cond_true,aSa]
abbrev gM:List AV->Option AV:=nP (fun a b=>dE a/\dE b) fun a b=>.bool (bS a.els b.els)
set_option maxHeartbeats 1000000 in
theorem rsameInts_ok:Abs.Ok Tryz.prog 35 gM:=ok2 fun a b ⟨ha,hb⟩=>by
 have hua:=(aL a ha).1;have hub:=(aL b hb).1;obtain ⟨xs,hs,hxs⟩:=ha;obtain ⟨ys,hy,hys⟩:=hb;rw [hs.els,hy.els];refine aF (L:=[]) aD aN (by kernel_rfl) Tryz.func35 Tryz.ntmps35 Tryz.results35 rfl rfl (aA hua.und (aA hub.und aC)) aJ ?_
 by_cases k0:((xs.length:Nat):Int)=((ys.length:Nat):Int)
 rotate_left
 ·rw [zA aE]
  exact SJ hs.lX hy.lX @k0
 have k1:xs.length=ys.length:=by omega
 have hsp:∃ W,W=bS xs ys:=⟨_,rfl⟩
 obtain ⟨W,hsp⟩:=hsp;rw [<-hsp];refine yQ hs.lX hy.lX @k0 ?_;refine aQ (fun i e=>∃ t n low o,e=⟨26,none,35,t,[],⟨n,low,o⟩,.no⟩/\t.val 0=a/\t.val 1=b/\t.val 5=.int .i64 (i:Nat)/\0<=n/\i<=xs.length/\W=bS (xs.drop i) (ys.drop i)) (fun i=>xs.length-i) 0 ⟨_,_,_,_,rfl,aG,aG,eP,aE,Nat.zero_le _,hsp⟩ ?_;rintro i _ ⟨t,n,low,o,rfl,t0,t1,t5,hn,hi,hq⟩
 rcases Nat.lt_or_ge i xs.length with hlt | hge
 ·obtain ⟨y,hDy,hm,hg,hd,hix,hw,hc⟩:=aZ (fun x h=>tu_int.len h) hxs hs.2 hlt
  obtain ⟨y',hDy',hm',hg',hd',hix',hw',hc'⟩:=aZ (fun x h=>tu_int.len h) hys hy.2 (by omega:i<ys.length)
  have hpf:=fun {d:Option AV}=>tu_int.pf hDy (d:=d)
  have hpf':=fun {d:Option AV}=>tu_int.pf hDy' (d:=d)
  obtain ⟨n,rfl⟩:=hDy;obtain ⟨n',rfl⟩:=hDy';rw [hd,hd',vE]at hq;by_cases k2:n=n'
  ·rw [decide_eq_true k2,Bool.true_and]at hq
   subst k2;refine NB @t0 @t1 @t5 hs.lX hs.iX hy.iX @hix @hix' @hc @hpf @hw ?_;exact ⟨i+1,by show _-_<_-_;omega,_,_,_,_,rfl,aP @t0,aP @t1,aG,aE,hlt,hq⟩
  ·rw [decide_eq_false k2,Bool.false_and]at hq
   exact aEr @t0 @t1 @t5 hs.lX hs.iX hy.iX @hix @hix' @hc @hpf @hpf' @k2 @hq
 ·obtain rfl:i=xs.length:=Nat.le_antisymm hi hge
  rw [List.drop_length,k1,List.drop_length]at hq;rw [show bS [] []=true from rfl]at hq;exact DO @t0 @t5 hs.lX @aW @hq
abbrev tH:List AV->Option AV:=nP (fun a b=>dE a/\dE b) fun a b=>.bool (bS a.els b.els)
set_option maxHeartbeats 1000000 in
theorem rsame5_ok:Abs.Ok Tryz.prog 47 tH:=ok2 fun a b ⟨ha,hb⟩=>by
 have hua:=(aL a ha).1;have hub:=(aL b hb).1;obtain ⟨xs,hs,hxs⟩:=ha;obtain ⟨ys,hy,hys⟩:=hb;rw [hs.els,hy.els];refine aF (L:=[]) aD aN (by kernel_rfl) Tryz.func47 Tryz.ntmps47 Tryz.results47 rfl rfl (aA hua.und (aA hub.und aC)) aJ ?_
 by_cases k0:((xs.length:Nat):Int)=((ys.length:Nat):Int)
 rotate_left
 ·rw [zA aE]
  exact SJ hs.lX hy.lX @k0
 have k1:xs.length=ys.length:=by omega
 have hsp:∃ W,W=bS xs ys:=⟨_,rfl⟩
 obtain ⟨W,hsp⟩:=hsp;rw [<-hsp];refine yQ hs.lX hy.lX @k0 ?_;refine aQ (fun i e=>∃ t n low o,e=⟨26,none,47,t,[],⟨n,low,o⟩,.no⟩/\t.val 0=a/\t.val 1=b/\t.val 5=.int .i64 (i:Nat)/\0<=n/\i<=xs.length/\W=bS (xs.drop i) (ys.drop i)) (fun i=>xs.length-i) 0 ⟨_,_,_,_,rfl,aG,aG,eP,aE,Nat.zero_le _,hsp⟩ ?_;rintro i _ ⟨t,n,low,o,rfl,t0,t1,t5,hn,hi,hq⟩
 rcases Nat.lt_or_ge i xs.length with hlt | hge
 ·obtain ⟨y,hDy,hm,hg,hd,hix,hw,hc⟩:=aZ (fun x h=>tu_int.len h) hxs hs.2 hlt
  obtain ⟨y',hDy',hm',hg',hd',hix',hw',hc'⟩:=aZ (fun x h=>tu_int.len h) hys hy.2 (by omega:i<ys.length)
  have hpf:=fun {d:Option AV}=>tu_int.pf hDy (d:=d)
  have hpf':=fun {d:Option AV}=>tu_int.pf hDy' (d:=d)
  obtain ⟨n,rfl⟩:=hDy;obtain ⟨n',rfl⟩:=hDy';rw [hd,hd',vE]at hq;by_cases k2:n=n'
  ·rw [decide_eq_true k2,Bool.true_and]at hq
   subst k2;refine NB @t0 @t1 @t5 hs.lX hs.iX hy.iX @hix @hix' @hc @hpf @hw ?_;exact ⟨i+1,by show _-_<_-_;omega,_,_,_,_,rfl,aP @t0,aP @t1,aG,aE,hlt,hq⟩
  ·rw [decide_eq_false k2,Bool.false_and]at hq
   exact aEr @t0 @t1 @t5 hs.lX hs.iX hy.iX @hix @hix' @hc @hpf @hpf' @k2 @hq
 ·obtain rfl:i=xs.length:=Nat.le_antisymm hi hge
  rw [List.drop_length,k1,List.drop_length]at hq;rw [show bS [] []=true from rfl]at hq;exact DO @t0 @t5 hs.lX @aW @hq
abbrev oA:List AV->Option AV:=nP (fun a b=>(TSl jY) a/\(TSl jY) b) fun a b=>.bool (bL a.els b.els)
set_option maxHeartbeats 1000000 in
theorem rsameOuts_ok:Abs.Ok Tryz.prog 36 oA:=ok2 fun a b ⟨ha,hb⟩=>by
 have hua:=(bJ a ha).1;have hub:=(bJ b hb).1;obtain ⟨xs,hs,hxs⟩:=ha;obtain ⟨ys,hy,hys⟩:=hb;rw [hs.els,hy.els];refine aF (L:=[]) aD aN (by kernel_rfl) Tryz.func36 Tryz.ntmps36 Tryz.results36 rfl rfl (aA hua.und (aA hub.und aC)) aJ ?_
 by_cases k0:((xs.length:Nat):Int)=((ys.length:Nat):Int)
 rotate_left
 ·rw [tJ aE]
  exact SJ hs.lX hy.lX @k0
 have k1:xs.length=ys.length:=by omega
 have hsp:∃ W,W=bL xs ys:=⟨_,rfl⟩
 obtain ⟨W,hsp⟩:=hsp;rw [<-hsp];refine yQ hs.lX hy.lX @k0 ?_;refine aQ (fun i e=>∃ t n low o,e=⟨26,none,36,t,[],⟨n,low,o⟩,.no⟩/\t.val 0=a/\t.val 1=b/\t.val 5=.int .i64 (i:Nat)/\0<=n/\i<=xs.length/\W=bL (xs.drop i) (ys.drop i)) (fun i=>xs.length-i) 0 ⟨_,_,_,_,rfl,aG,aG,eP,aE,Nat.zero_le _,hsp⟩ ?_;rintro i _ ⟨t,n,low,o,rfl,t0,t1,t5,hn,hi,hq⟩
 rcases Nat.lt_or_ge i xs.length with hlt | hge
 ·obtain ⟨y,hDy,hm,hg,hd,hix,hw,hc⟩:=aZ (fun x h=>tk_out.len h) hxs hs.2 hlt
  obtain ⟨y',hDy',hm',hg',hd',hix',hw',hc'⟩:=aZ (fun x h=>tk_out.len h) hys hy.2 (by omega:i<ys.length)
  have hpf:=fun {d:Option AV}=>tk_out.pf hDy (d:=d)
  have hpf':=fun {d:Option AV}=>tk_out.pf hDy' (d:=d)
  obtain ⟨_,_,rfl,⟨k,rfl⟩,⟨n',rfl⟩⟩:=hDy;obtain ⟨_,_,rfl,⟨k',rfl⟩,⟨m',rfl⟩⟩:=hDy';rw [hd,hd',pV]at hq;by_cases k2:k=k'/\n'=m'
  ·rw [decide_eq_true k2,Bool.true_and]at hq
   obtain ⟨rfl,rfl⟩:=k2;refine sG @t0 @t1 @t5 hs.lX hs.iX hy.iX @hix @hix' @hc @hpf @HZ @hw ?_;exact ⟨i+1,by show _-_<_-_;omega,_,_,_,_,rfl,aP @t0,aP @t1,aG,aE,hlt,hq⟩
  ·rw [decide_eq_false k2,Bool.false_and]at hq
   exact xK @t0 @t1 @t5 hs.lX hs.iX hy.iX @hix @hix' @hc @hpf @hpf' @HZ @k2 @hq
 ·obtain rfl:i=xs.length:=Nat.le_antisymm hi hge
  rw [List.drop_length,k1,List.drop_length]at hq;rw [show bL [] []=true from rfl]at hq;exact DO @t0 @t5 hs.lX @aW @hq
def jW:List AV->List AV->Bool
 | [],[]=>true
 | a::l,b::m=>dU a b&&jW l m
 | _,_=>false
def vF (w w':AV):Bool:=decide ((w.fld 0).els.length=(w'.fld 0).els.length)&&(bS (w.fld 1).els (w'.fld 1).els&&(bL (w.fld 2).els (w'.fld 2).els&&(bS (w.fld 3).els (w'.fld 3).els&&(decide ((w.fld 4).num=(w'.fld 4).num)&&jW (w.fld 0).els (w'.fld 0).els))))
abbrev QU:List AV->Option AV:=nP (fun a b=>tO a/\tO b) fun a b=>.bool (vF a b)
set_option maxHeartbeats 4000000 in
theorem rsameW_ok:Abs.Ok Tryz.prog 16 QU:=ok2 fun a b ⟨ha,hb⟩=>by
 have hua:=(tk_wd a ha).1;have hub:=(tk_wd b hb).1;obtain ⟨os,ts,us,is,_,rfl,h1,h2,h3,h4,⟨no,rfl⟩⟩:=ha;obtain ⟨os',ts',us',is',_,rfl,h1',h2',h3',h4',⟨no',rfl⟩⟩:=hb;have c1:=(cD _ h1).2;have c2:=(aL _ h2).2;have c3:=(bJ _ h3).2;have c4:=(aL _ h4).2;have c1':=(cD _ h1').2;have c2':=(aL _ h2').2;have c3':=(bJ _ h3').2;have c4':=(aL _ h4').2;have e1:gM [ts,ts']=some (.bool (bS ts.els ts'.els)):=sg2_eq ⟨h2,h2'⟩;have e2:oA [us,us']=some (.bool (bL us.els us'.els)):=sg2_eq ⟨h3,h3'⟩;have e3:gM [is,is']=some (.bool (bS is.els is'.els)):=sg2_eq ⟨h4,h4'⟩;obtain ⟨xo,ho,hox⟩:=h1;obtain ⟨xo',ho',hox'⟩:=h1'
 have hsp:vF (.agg [os,ts,us,is,.int .i64 no]) (.agg [os',ts',us',is',.int .i64 no'])=(decide (xo.length=xo'.length)&&(bS ts.els ts'.els&&(bL us.els us'.els&&(bS is.els is'.els&&(decide (no=no')&&jW xo xo'))))):=by
  rw [<-ho.els,<-ho'.els];rfl
 rw [hsp];clear hsp;refine aF (L:=[ent 35 gM,ent 36 oA,ent 37 kX]) (elist_cons rsameInts_ok.ent (elist_cons rsameOuts_ok.ent (elist_cons rsameObj_ok.ent aD))) (fun r=>(bif Nat.beq r 6 then [10] else [],[])) (by kernel_rfl) Tryz.func16 Tryz.ntmps16 Tryz.results16 rfl rfl (aA hua.und (aA hub.und aC)) aJ ?_;by_cases k0:xo.length=xo'.length
 rotate_left
 ·have k0':(((xo.length:Nat):Int)=((xo'.length:Nat):Int))=False:=eq_false aE
  rw [decide_eq_false k0];exact NF @c1 @c2 @c3 @c4 @c1' @c2' @c3' @c4' ho.lX ho'.lX @k0'
 have k0':(((xo.length:Nat):Int)=((xo'.length:Nat):Int))=True:=eq_true aE;rw [decide_eq_true k0,Bool.true_and]
 cases k1:bS ts.els ts'.els with
 | false=>exact aEr @c1 @c2 @c3 @c4 @c1' @c2' @c3' @c4' ho.lX ho'.lX @k0' @e1 @k1
 | true=>
 cases k2:bL us.els us'.els with
 | false=>exact NG @c1 @c2 @c3 @c4 @c1' @c2' @c3' @c4' ho.lX ho'.lX @k0' @e1 @k1 @e2 @k2
 | true=>
 cases k3:bS is.els is'.els with
 | false=>exact aEs @c1 @c2 @c3 @c4 @c1' @c2' @c3' @c4' ho.lX ho'.lX @k0' @e1 @k1 @e2 @k2 @e3 @k3
 | true=>
 by_cases k4:no=no'
 rotate_left
 ·rw [decide_eq_false k4]
  exact SL @c1 @c2 @c3 @c4 @c1' @c2' @c3' @c4' ho.lX ho'.lX @k0' @e1 @k1 @e2 @k2 @e3 @k3 @k4
 rw [decide_eq_true k4,Bool.true_and,Bool.true_and,Bool.true_and,Bool.true_and]
 have hsp:∃ W,W=jW xo xo':=⟨_,rfl⟩
 obtain ⟨W,hsp⟩:=hsp;rw [<-hsp];refine NE @c1 @c2 @c3 @c4 @c1' @c2' @c3' @c4' ho.lX ho'.lX @k0' @e1 @k1 @e2 @k2 @e3 @k3 @k4 ?_;refine aQ (fun i e=>∃ t n low o,e=⟨63,none,16,t,[],⟨n,low,o⟩,.no⟩/\t.val 2=.ptr 0 0 0/\t.val 3=.ptr 1 0 0/\t.val 5=.int .i64 (i:Nat)/\o.get 0=some (aY 0 [os,ts,us,is,.int .i64 no])/\o.get 1=some (aY 0 [os',ts',us',is',.int .i64 no'])/\2<=n/\i<=xo.length/\W=jW (xo.drop i) (xo'.drop i)) (fun i=>xo.length-i) 0 ⟨_,_,_,_,rfl,aG,aG,eP,rB @k4,aG,aE,Nat.zero_le _,hsp⟩ ?_;rintro i _ ⟨t,n,low,o,rfl,t2,t3,t5,g0,g1,hn,hi,hq⟩;have f0:=bT (show 0<n by omega);have f1:=bT (show 1<n by omega)
 rcases Nat.lt_or_ge i xo.length with hlt | hge
 ·obtain ⟨x,hDx,_,_,hd,hix,hw,k5⟩:=aZ (fun x h=>tk_ob.len h) hox ho.2 hlt
  obtain ⟨x',hDx',_,_,hd',hix',_,_⟩:=aZ (fun x h=>tk_ob.len h) hox' ho'.2 (show i<xo'.length by omega)
  have hpx:=fun {d:Option AV}=>tk_ob.pf hDx (d:=d)
  have hpx':=fun {d:Option AV}=>tk_ob.pf hDx' (d:=d)
  have b2:kX [x,x']=some (.bool (dU x x')):=sg2_eq ⟨hDx,hDx'⟩
  have s1:=fun {Y:Nat->Prop}=>ho.stab (Y:=Y)
  have s2:=fun {Y:Nat->Prop}=>ho'.stab (Y:=Y)
  rw [hd,hd',jW]at hq
  cases k6:dU x x' with
  | false=>
    rw [k6,Bool.false_and]at hq;exact SL @t2 @t3 @t5 @g0 @g1 @f0 @f1 ho.lX ho.iX ho'.iX @hix @hix' @hpx @hpx' @k5 @b2 @k6 @hq
  | true=>
    rw [k6,Bool.true_and]at hq;refine NE @t2 @t3 @t5 @g0 @g1 @f0 @f1 ho.lX ho.iX ho'.iX @hix @hix' @hpx @hpx' @k5 @b2 @k6 @hw ?_;exact ⟨i+1,by show _-_<_-_;omega,_,_,_,_,rfl,aP @t2,aP @t3,aG,by simp +decide only [g0],by simp +decide only [g1],aE,hlt,hq⟩
 ·obtain rfl:i=xo.length:=Nat.le_antisymm hi hge
  rw [List.drop_length,k0,List.drop_length]at hq;rw [show jW [] []=true from rfl]at hq;exact PX @t2 @t5 @g0 @f0 ho.lX @aW @hq
theorem QV (f:AV):qU f f=true:=by simp [qU,bL]
theorem AC:∀ l:List AV,eD l l=true
 | []=>rfl
 | f::l=>by rw [eD,QV,AC l];rfl
theorem QW (a:AV):dU a a=true:=by simp [dU,bL,AC]
theorem rQ:∀ l:List AV,jW l l=true
 | []=>rfl
 | f::l=>by rw [jW,QW,rQ l];rfl
theorem MD:∀ a b:List AV,jW (a.map cV) b=jW a b
 | [],[]=>rfl
 | [],_::_=>rfl
 | _::_,[]=>rfl
 | x::a,y::b=>by rw [List.map_cons,jW,jW,aJa,MD a b]
theorem mJ (l:List AV):bS l l=true:=by simp [bS]
theorem CP (l:List AV):bL l l=true:=by simp [bL]
section
variable {p os ts us is no ns fs mm cs os' ts' us' is' no' d g:AV}
end
section
variable {p os ts us is no:AV}
end
section
variable {p os ts us is no os' ts' us' is' no' d g:AV}
def IsS (r:AV) (xo xt xu xi:List AV) (no:AV) (xo' xt' xu' xi':List AV) (no':AV) (xd xg:List AV):Prop:=∃ os ts us is os' ts' us' is' d g,r=stg os ts us is no os' ts' us' is' no' d g/\SG os ts us is no os' ts' us' is' no' d g/\os.els=xo/\ts.els=xt/\us.els=xu/\is.els=xi/\os'.els=xo'/\ts'.els=xt'/\us'.els=xu'/\is'.els=xi'/\d.els=xd/\g.els=xg
end
section
variable {p os ts us is no os' ts' us' is' no' d g:AV}
structure ApW (s:Sto) (os ts us is:AV) (xo xt xu xi:List AV):Prop where
 o:ApY s 4 os xo
 t:ApY s 1 ts xt
 u:ApY s 2 us xu
 i:ApY s 1 is xi
 lo:xo.length<=1000
 lt:xt.length<=1000
 lu:xu.length<=1000
 li:xi.length<=1000
 ho:∀ x∈xo,fX x
 ht:∀ x∈xt,cA x
 hu:∀ x∈xu,jY x
 hi:∀ x∈xi,cA x
end
section
variable {p os ts us is no os' ts' us' is' no' d g:AV}
end
theorem IsS.st {r:AV} {xo xt xu xi xo' xt' xu' xi' xd xg:List AV} {no no':AV} (h:IsS r xo xt xu xi no xo' xt' xu' xi' no' xd xg):aOz r:=by
 obtain ⟨os,ts,us,is,os',ts',us',is',d,g,rfl,h,_⟩:=h;exact ⟨os,ts,us,is,no,os',ts',us',is',no',d,g,rfl,h⟩
section
variable {p os ts us is no os' ts' us' is' no' d g:AV}
end
end
end Go.Proofs.YtifmdaalhclhgaaGreat
