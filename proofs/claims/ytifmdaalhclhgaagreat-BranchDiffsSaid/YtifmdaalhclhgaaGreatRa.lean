/-
  The references: whether lists, worlds and states are alike.
-/
import Derived.Test.YtifmdaalhclhgaaGreatQn
set_option linter.unusedVariables false
set_option linter.unusedSimpArgs false
namespace Go.Proofs.YtifmdaalhclhgaaGreat
open Go.Abs Go Go.Abs.TryzF
noncomputable section
set_option maxRecDepth 10000
def cH (a b:List AV):Bool:=decide (a.map AV.num=b.map AV.num)
theorem yB {n m:Int} {a b:List AV}:cH (.int .i64 n::a) (.int .i64 m::b)=(decide (n=m)&&cH a b):=by
 simp only [cH,List.map_cons,List.cons.injEq];rw [Bool.decide_and];rfl
theorem BL {a b:List AV} (h:¬ a.length=b.length):cH a b=false:=by
 simp only [cH,decide_eq_false_iff_not];intro e;have:=congrArg List.length e;simp at this;exact h this
theorem aHp {x y:Operand} {k n k' n':Int}:lR Tryz.prog .neq 146 x y (.agg [.int .i64 k,.int .i64 n]) (.agg [.int .i64 k',.int .i64 n'])=true:=by kernel_rfl
theorem aHq {k n k' n':Int}:CK Tryz.prog 10000 146 (.agg [.int .i64 k,.int .i64 n]) (.agg [.int .i64 k',.int .i64 n'])=some (decide (k=k'/\n=n')):=by
 have h2:CK Tryz.prog 10000 146 (.agg [.int .i64 k,.int .i64 n]) (.agg [.int .i64 k',.int .i64 n'])=aeqs Tryz.prog (CK Tryz.prog 9999) [.int .i64 k,.int .i64 n] [.int .i64 k',.int .i64 n'] [(3,0),(3,1)]:=by kernel_rfl
 have q4:∀ {k k':Int},CK Tryz.prog 9999 3 (.int .i64 k) (.int .i64 k')=some (kC k k'):=by intro _ _;kernel_rfl
 have q5:∀ {k k':AV},jB Tryz.prog 3 [k,k'] 0=some k:=by intro _ _;kernel_rfl
 have q6:∀ {k k':AV},jB Tryz.prog 3 [k,k'] 1=some k':=by intro _ _;kernel_rfl
 rw [h2];simp only [aeqs,q4,q5,q6,eH]
 have hb:∀ a b:Int,(a==b)=decide (a=b):=fun a b=>rfl
 rw [hb,hb,Bool.decide_and];cases decide (k=k')<;>cases decide (n=n')<;>rfl
theorem CU {x y:Operand} {k n k' n':Int}:cN Tryz.prog .neq 146 x y (.agg [.int .i64 k,.int .i64 n]) (.agg [.int .i64 k',.int .i64 n'])=some (.bool (!decide (k=k'/\n=n'))):=by
 simp only [cN,aHp,cond_true,aHq]
abbrev gX:List AV->Option AV:=oY (fun a b=>fG a/\fG b) fun a b=>.bool (cH a.els b.els)
set_option maxHeartbeats 1000000 in
theorem rsameInts_ok:Abs.Ok Tryz.prog 35 gX:=ok2 fun a b ⟨ha,hb⟩=>by
 have hua:=(aN a ha).1;have hub:=(aN b hb).1;obtain ⟨xs,hs,hxs⟩:=ha;obtain ⟨ys,hy,hys⟩:=hb;rw [hs.els,hy.els];refine aE (L:=[]) aF aH (by kernel_rfl) Tryz.func35 Tryz.ntmps35 Tryz.results35 rfl rfl (aA hua.und (aA hub.und aD)) aG ?_
 by_cases k0:((xs.length:Nat):Int)=((ys.length:Nat):Int)
 rotate_left
 ·rw [BL (by omega)]
  simp +contextual +decide (maxSteps:=1000000) only [↓ wP,wQ,tf,wS,hs.len,hy.len,k0]
 have k1:xs.length=ys.length:=by omega
 have hsp:∃ W,W=cH xs ys:=⟨_,rfl⟩
 obtain ⟨W,hsp⟩:=hsp;rw [<-hsp];simp +contextual +decide (maxSteps:=1000000) only [↓ wP,wQ,tf,wS,hs.len,hy.len,k0];refine aO (fun i e=>∃ t n low o,e=⟨26,none,35,t,[],⟨n,low,o⟩,.no⟩/\t.val 0=a/\t.val 1=b/\t.val 5=.int .i64 (i:Nat)/\0<=n/\i<=xs.length/\W=cH (xs.drop i) (ys.drop i)) (fun i=>xs.length-i) 0 ⟨_,_,_,_,rfl,by simp +decide only [↓ aB,bR,aY],by simp +decide only [↓ aB,bR,aY],by simp +decide only [↓ aB];rfl,by omega,Nat.zero_le _,hsp⟩ ?_;rintro i _ ⟨t,n,low,o,rfl,t0,t1,t5,hn,hi,hq⟩
 rcases Nat.lt_or_ge i xs.length with hlt | hge
 ·obtain ⟨y,hDy,hm,hg,hd,hix,hw,hc⟩:=aW (fun x h=>tu_int.len h) hxs hs.2 hlt
  obtain ⟨y',hDy',hm',hg',hd',hix',hw',hc'⟩:=aW (fun x h=>tu_int.len h) hys hy.2 (by omega:i<ys.length)
  have hpf:=fun {d:Option AV}=>tu_int.pf hDy (d:=d)
  have hpf':=fun {d:Option AV}=>tu_int.pf hDy' (d:=d)
  obtain ⟨n,rfl⟩:=hDy;obtain ⟨n',rfl⟩:=hDy';rw [hd,hd',yB]at hq;by_cases k2:n=n'
  ·rw [decide_eq_true k2,Bool.true_and]at hq
   subst k2;simp +contextual +decide (maxSteps:=1000000) only [↓ wP,wQ,tf,Nat.reduceAdd,wS,t0,t1,t5,hs.len,hs.idx,hy.idx,hix,hix',hc,hpf,hw];exact ⟨i+1,by show _-_<_-_;omega,_,_,_,_,rfl,by simp +decide only [↓ aB,t0],by simp +decide only [↓ aB,t1],by simp +decide only [↓ aB],by omega,hlt,hq⟩
  ·rw [decide_eq_false k2,Bool.false_and]at hq
   simp +contextual +decide (maxSteps:=1000000) only [↓ wP,wQ,tf,Nat.reduceAdd,wS,t0,t1,t5,hs.len,hs.idx,hy.idx,hix,hix',hc,hpf,hpf',k2,hq]
 ·obtain rfl:i=xs.length:=Nat.le_antisymm hi hge
  rw [List.drop_length,k1,List.drop_length]at hq;rw [show cH [] []=true from rfl]at hq;simp +contextual +decide (maxSteps:=1000000) only [↓ wP,wQ,tf,wS,t0,t5,hs.len,aS,hq]
abbrev mL:List AV->Option AV:=oY (fun a b=>(TSl lX) a/\(TSl lX) b) fun a b=>.bool (bG a.els b.els)
set_option maxHeartbeats 1000000 in
theorem rsameOuts_ok:Abs.Ok Tryz.prog 36 mL:=ok2 fun a b ⟨ha,hb⟩=>by
 have hua:=(cR a ha).1;have hub:=(cR b hb).1;obtain ⟨xs,hs,hxs⟩:=ha;obtain ⟨ys,hy,hys⟩:=hb;rw [hs.els,hy.els];refine aE (L:=[]) aF aH (by kernel_rfl) Tryz.func36 Tryz.ntmps36 Tryz.results36 rfl rfl (aA hua.und (aA hub.und aD)) aG ?_
 by_cases k0:((xs.length:Nat):Int)=((ys.length:Nat):Int)
 rotate_left
 ·rw [qP (by omega)]
  simp +contextual +decide (maxSteps:=1000000) only [↓ wP,wQ,tf,wS,hs.len,hy.len,k0]
 have k1:xs.length=ys.length:=by omega
 have hsp:∃ W,W=bG xs ys:=⟨_,rfl⟩
 obtain ⟨W,hsp⟩:=hsp;rw [<-hsp];simp +contextual +decide (maxSteps:=1000000) only [↓ wP,wQ,tf,wS,hs.len,hy.len,k0];refine aO (fun i e=>∃ t n low o,e=⟨26,none,36,t,[],⟨n,low,o⟩,.no⟩/\t.val 0=a/\t.val 1=b/\t.val 5=.int .i64 (i:Nat)/\0<=n/\i<=xs.length/\W=bG (xs.drop i) (ys.drop i)) (fun i=>xs.length-i) 0 ⟨_,_,_,_,rfl,by simp +decide only [↓ aB,bR,aY],by simp +decide only [↓ aB,bR,aY],by simp +decide only [↓ aB];rfl,by omega,Nat.zero_le _,hsp⟩ ?_;rintro i _ ⟨t,n,low,o,rfl,t0,t1,t5,hn,hi,hq⟩
 rcases Nat.lt_or_ge i xs.length with hlt | hge
 ·obtain ⟨y,hDy,hm,hg,hd,hix,hw,hc⟩:=aW (fun x h=>tk_out.len h) hxs hs.2 hlt
  obtain ⟨y',hDy',hm',hg',hd',hix',hw',hc'⟩:=aW (fun x h=>tk_out.len h) hys hy.2 (by omega:i<ys.length)
  have hpf:=fun {d:Option AV}=>tk_out.pf hDy (d:=d)
  have hpf':=fun {d:Option AV}=>tk_out.pf hDy' (d:=d)
  obtain ⟨_,_,rfl,⟨k,rfl⟩,⟨n',rfl⟩⟩:=hDy;obtain ⟨_,_,rfl,⟨k',rfl⟩,⟨m',rfl⟩⟩:=hDy';rw [hd,hd',nW]at hq;by_cases k2:k=k'/\n'=m'
  ·rw [decide_eq_true k2,Bool.true_and]at hq
   obtain ⟨rfl,rfl⟩:=k2;simp +contextual +decide (maxSteps:=1000000) only [↓ wP,wQ,tf,Nat.reduceAdd,wS,t0,t1,t5,hs.len,hs.idx,hy.idx,hix,hix',hc,hpf,CU,hw];exact ⟨i+1,by show _-_<_-_;omega,_,_,_,_,rfl,by simp +decide only [↓ aB,t0],by simp +decide only [↓ aB,t1],by simp +decide only [↓ aB],by omega,hlt,hq⟩
  ·rw [decide_eq_false k2,Bool.false_and]at hq
   simp +contextual +decide (maxSteps:=1000000) only [↓ wP,wQ,tf,Nat.reduceAdd,wS,t0,t1,t5,hs.len,hs.idx,hy.idx,hix,hix',hc,hpf,hpf',CU,k2,hq]
 ·obtain rfl:i=xs.length:=Nat.le_antisymm hi hge
  rw [List.drop_length,k1,List.drop_length]at hq;rw [show bG [] []=true from rfl]at hq;simp +contextual +decide (maxSteps:=1000000) only [↓ wP,wQ,tf,wS,t0,t5,hs.len,aS,hq]
def jC:List AV->List AV->Bool
 | [],[]=>true
 | a::l,b::m=>cX a b&&jC l m
 | _,_=>false
theorem KA (f:AV):oV f f=true:=by simp [oV,bG]
theorem vY:∀ l:List AV,dT l l=true
 | []=>rfl
 | f::l=>by rw [dT,KA,vY l];rfl
theorem yC (a:AV):cX a a=true:=by simp [cX,bG,vY]
theorem vZ:∀ l:List AV,jC l l=true
 | []=>rfl
 | f::l=>by rw [jC,yC,vZ l];rfl
theorem GS:∀ a b:List AV,jC (a.map lV) b=jC a b
 | [],[]=>rfl
 | [],_::_=>rfl
 | _::_,[]=>rfl
 | x::a,y::b=>by rw [List.map_cons,jC,jC,NZ,GS a b]
theorem KB (l:List AV):cH l l=true:=by simp [cH]
theorem KC (l:List AV):bG l l=true:=by simp [bG]
section
variable {p os ts us is no ns fs mm cs os' ts' us' is' no' d g:AV}
end
section
variable {p os ts us is no:AV}
end
end
end Go.Proofs.YtifmdaalhclhgaaGreat
