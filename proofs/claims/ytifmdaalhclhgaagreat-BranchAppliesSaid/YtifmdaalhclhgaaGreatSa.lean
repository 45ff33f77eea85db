/-
  Branches: what comes after what, and differences, in plain words.
-/
import Derived.Test.YtifmdaalhclhgaaGreatRl
import Derived.Test.YtifmdaalhclhgaaGreatQi
set_option linter.unusedVariables false
set_option linter.unusedSimpArgs false
namespace Go.Proofs.YtifmdaalhclhgaaGreat
open Go.Abs Go Go.Abs.TryzF
noncomputable section
set_option maxRecDepth 10000
def xI (k:Int):Bool:=decide (k=1)||(decide (k=2)||decide (k=5))
def HJ (o x:AV):Bool:=decide ((o.fld 0).num=(x.fld 0).num)&&(!xI (o.fld 0).num||fX o x)
def fZ:List AV->List AV->Bool
 | [],_=>true
 | _::_,[]=>false
 | o::l,x::m=>HJ o x&&fZ l m
def LC (l m:List AV):Bool:=decide (m.length<=l.length)&&cI (l.take m.length) m
def LD (l m:List AV):Bool:=decide (m.length<=l.length)&&bK (l.take m.length) m
def jY (b w:AV):Int:=(w.fld 4).num-(b.fld 4).num
def dO (b w:AV):Bool:=
 decide ((b.fld 0).els.length<=(w.fld 0).els.length)&&(LC (w.fld 1).els (b.fld 1).els&&(LD (w.fld 2).els (b.fld 2).els&&(decide (0<=jY b w)&&(decide (jY b w<=((b.fld 3).els.length:Nat))&&(cI (w.fld 3).els ((b.fld 3).els.drop (jY b w).toNat)&&fZ (b.fld 0).els (w.fld 0).els)))))
theorem zC (a b:List AV):cI a b=cI b a:=by simp only [cI];exact decide_eq_decide.2 ⟨Eq.symm,Eq.symm⟩
theorem LE (a b:List AV):bK a b=bK b a:=by simp only [bK];exact decide_eq_decide.2 ⟨Eq.symm,Eq.symm⟩
def uC (b w:AV):Bool:=
 decide ((b.fld 0).els.length<=(w.fld 0).els.length)&&(decide ((b.fld 1).els.length<=(w.fld 1).els.length)&&(decide ((b.fld 2).els.length<=(w.fld 2).els.length)&&(decide (0<=jY b w)&&(decide (jY b w<=((b.fld 3).els.length:Nat))&&(fZ (b.fld 0).els (w.fld 0).els&&(cI (b.fld 1).els ((w.fld 1).els.take (b.fld 1).els.length)&&(bK (b.fld 2).els ((w.fld 2).els.take (b.fld 2).els.length)&&cI ((b.fld 3).els.drop (jY b w).toNat) (w.fld 3).els)))))))
theorem RT (b w:AV):uC b w=dO b w:=by
 rw [uC,dO,LC,LD,zC (b.fld 1).els,LE (b.fld 2).els,zC ((b.fld 3).els.drop _)];generalize decide ((b.fld 0).els.length<=(w.fld 0).els.length)=A;generalize decide ((b.fld 1).els.length<=(w.fld 1).els.length)=B;generalize decide ((b.fld 2).els.length<=(w.fld 2).els.length)=C;generalize decide (0<=jY b w)=D;generalize decide (jY b w<=((b.fld 3).els.length:Nat))=E;generalize fZ _ _=F;generalize cI ((w.fld 1).els.take (b.fld 1).els.length) (b.fld 1).els=G;generalize bK _ _=H;generalize cI _ _=I;cases A<;>cases B<;>cases C<;>cases D<;>cases E<;>cases F<;>cases G<;>cases H<;>cases I<;>rfl
abbrev RU:=T5 cM cM cM fY tL
theorem tk_dob:Tk 5 RU:=tk5 tu_int tu_int tu_int aO bR
theorem oL:Tu (TSl RU):=gP (iC tk_dob)
abbrev uD:=T5 (TSl RU) (TSl nC) eU (TSl lB) cM
theorem mM:Tk 5 uD:=tk5 oL dQ aP bV tu_int
def iP (r:AV):AV:=.agg [r.fld 1,r.fld 2,r.fld 3,r.fld 4]
end
end Go.Proofs.YtifmdaalhclhgaaGreat
/-
 Branches: what comes after what,in the program.
-/
namespace Go.Abs
noncomputable section
theorem Sl.from {a:AV} {xs:List AV} (hs:Sl a xs) {k:Nat} (hk:∀ x∈xs,x.cells.length=k) {n:Int} (h0:0<=n) (h1:n<=(xs.length:Nat)):
 ∃ b,Sl b (xs.drop n.toNat)/\∀ {P:Program} {t:TypeId} {j:IntKind},oJ P t=some k->eD P t a (some (.int j n)) none none=some b:=by
 have hall:(xs.all fun v=>Nat.beq v.cells.length k)=true:=List.all_eq_true.2 fun x hx=>by rw [hk x hx];exact Nat.beq_refl k
 have hlen:(xs.drop n.toNat).length<=9223372036854775807:=by have:=hs.2;simp;omega
 rcases hs.1 with ⟨rfl,rfl⟩ | ⟨c,rfl⟩
 ·refine ⟨.nils,⟨.inl ⟨rfl,by simp⟩,hlen⟩,fun {P t j} he=>?_⟩
  have hn:n=0:=by simp at h1;omega
  subst hn;rw [qX,he];rfl
 ·refine ⟨.fz (xs.drop n.toNat) (c&&Nat.beq xs.length xs.length),⟨.inr ⟨_,rfl⟩,hlen⟩,fun {P t j} he=>?_⟩
  rw [AK,he];show jW k (.fz xs c) (some (.int j n)) none none=_;have hab':eC (some (.int j n)) 0 xs.length=some n.toNat:=iX h0 h1;simp only [jW,hab',iW,hall,cond_true,aX];rw [List.take_of_length_le (by simp)]
end
end Go.Abs
namespace Go.Proofs.YtifmdaalhclhgaaGreat
open Go.Abs Go Go.Abs.TryzF
noncomputable section
set_option maxRecDepth 10000
set_option maxHeartbeats 1000000 in
theorem equalI_ok:Abs.Ok Tryz.prog 68 gA:=ok2 fun a b ⟨ha,hb⟩=>by
 have hua:=(aP a ha).1;have hub:=(aP b hb).1;obtain ⟨xs,hs,hxs⟩:=ha;obtain ⟨ys,hy,hys⟩:=hb;rw [hs.els,hy.els];refine aG (L:=[]) aH aM (by kernel_rfl) Tryz.func68 Tryz.ntmps68 Tryz.results68 rfl rfl (aA hua.und (aA hub.und aF)) aJ ?_
 by_cases k0:((xs.length:Nat):Int)=((ys.length:Nat):Int)
 rotate_left
 ·rw [CP (by omega)]
  simp +contextual +decide (maxSteps:=1000000) only [↓ wP,wQ,tf,Nat.reduceAdd,wS,reduceCtorEq,hs.len,hy.len,k0]
 have k1:xs.length=ys.length:=by omega
 have hsp:∃ W,W=cI xs ys:=⟨_,rfl⟩
 obtain ⟨W,hsp⟩:=hsp;rw [<-hsp];simp +contextual +decide (maxSteps:=1000000) only [↓ wP,wQ,tf,Nat.reduceAdd,wS,reduceCtorEq,hs.len,hy.len,k0];refine aR (fun i e=>∃ t n low o,e=⟨26,none,68,t,[],⟨n,low,o⟩,.no⟩/\t.val 0=a/\t.val 1=b/\t.val 12=.int .i64 (xs.length:Nat)/\t.val 13=.int .i64 (i:Nat)/\0<=n/\i<=xs.length/\W=cI (xs.drop i) (ys.drop i)) (fun i=>xs.length-i) 0 ⟨_,_,_,_,rfl,by simp +decide only [↓ aB,aE,aC,k0],by simp +decide only [↓ aB,aE,aC,k0],by simp +decide only [↓ aB,aE,aC,k0],by simp +decide only [↓ aB,aE,aC,k0];rfl,by omega,Nat.zero_le _,hsp⟩ ?_;rintro i _ ⟨t,n,low,o,rfl,t0,t1,t12,t13,hn,hi,hq⟩
 rcases Nat.lt_or_ge i xs.length with hlt | hge
 ·obtain ⟨y,hDy,hm,hg,hd,hix,hw,hc⟩:=bB (fun x h=>tu_int.len h) hxs hs.2 hlt
  obtain ⟨y',hDy',hm',hg',hd',hix',hw',hc'⟩:=bB (fun x h=>tu_int.len h) hys hy.2 (by omega:i<ys.length)
  have hpf:=fun {d:Option AV}=>tu_int.pf hDy (d:=d)
  have hpf':=fun {d:Option AV}=>tu_int.pf hDy' (d:=d)
  obtain ⟨n,rfl⟩:=hDy;obtain ⟨n',rfl⟩:=hDy';rw [hd,hd',zD]at hq;by_cases k2:n=n'
  ·rw [decide_eq_true k2,Bool.true_and]at hq
   subst k2;simp +contextual +decide (maxSteps:=1000000) only [↓ wP,wQ,tf,Nat.reduceAdd,wS,reduceCtorEq,t0,t1,t12,t13,hs.idx,hy.idx,hix,hix',hc,hc',hpf,hpf',hw];exact ⟨i+1,by show _-_<_-_;omega,_,_,_,_,rfl,by simp +decide only [↓ aB,aE,aC,t0],by simp +decide only [↓ aB,aE,aC,t1],by simp +decide only [↓ aB,aE,aC,t12],by simp +decide only [↓ aB,aE,aC],by omega,hlt,hq⟩
  ·rw [decide_eq_false k2,Bool.false_and]at hq
   simp +contextual +decide (maxSteps:=1000000) only [↓ wP,wQ,tf,Nat.reduceAdd,wS,reduceCtorEq,t0,t1,t12,t13,hs.idx,hy.idx,hix,hix',hc,hc',hpf,hpf',k2,hq]
 ·obtain rfl:i=xs.length:=Nat.le_antisymm hi hge
  rw [List.drop_length,k1,List.drop_length]at hq;rw [show cI [] []=true from rfl]at hq;simp +contextual +decide (maxSteps:=1000000) only [↓ wP,wQ,tf,Nat.reduceAdd,wS,reduceCtorEq,t0,t1,t12,t13,aS,hq]
set_option maxHeartbeats 1000000 in
theorem equalO_ok:Abs.Ok Tryz.prog 114 nA:=ok2 fun a b ⟨ha,hb⟩=>by
 have hua:=(bV a ha).1;have hub:=(bV b hb).1;obtain ⟨xs,hs,hxs⟩:=ha;obtain ⟨ys,hy,hys⟩:=hb;rw [hs.els,hy.els];refine aG (L:=[]) aH aM (by kernel_rfl) Tryz.func114 Tryz.ntmps114 Tryz.results114 rfl rfl (aA hua.und (aA hub.und aF)) aJ ?_
 by_cases k0:((xs.length:Nat):Int)=((ys.length:Nat):Int)
 rotate_left
 ·rw [rR (by omega)]
  simp +contextual +decide (maxSteps:=1000000) only [↓ wP,wQ,tf,Nat.reduceAdd,wS,reduceCtorEq,hs.len,hy.len,k0]
 have k1:xs.length=ys.length:=by omega
 have hsp:∃ W,W=bK xs ys:=⟨_,rfl⟩
 obtain ⟨W,hsp⟩:=hsp;rw [<-hsp];simp +contextual +decide (maxSteps:=1000000) only [↓ wP,wQ,tf,Nat.reduceAdd,wS,reduceCtorEq,hs.len,hy.len,k0];refine aR (fun i e=>∃ t n low o,e=⟨26,none,114,t,[],⟨n,low,o⟩,.no⟩/\t.val 0=a/\t.val 1=b/\t.val 12=.int .i64 (xs.length:Nat)/\t.val 13=.int .i64 (i:Nat)/\0<=n/\i<=xs.length/\W=bK (xs.drop i) (ys.drop i)) (fun i=>xs.length-i) 0 ⟨_,_,_,_,rfl,by simp +decide only [↓ aB,aE,aC,k0],by simp +decide only [↓ aB,aE,aC,k0],by simp +decide only [↓ aB,aE,aC,k0],by simp +decide only [↓ aB,aE,aC,k0];rfl,by omega,Nat.zero_le _,hsp⟩ ?_;rintro i _ ⟨t,n,low,o,rfl,t0,t1,t12,t13,hn,hi,hq⟩
 rcases Nat.lt_or_ge i xs.length with hlt | hge
 ·obtain ⟨y,hDy,hm,hg,hd,hix,hw,hc⟩:=bB (fun x h=>tk_out.len h) hxs hs.2 hlt
  obtain ⟨y',hDy',hm',hg',hd',hix',hw',hc'⟩:=bB (fun x h=>tk_out.len h) hys hy.2 (by omega:i<ys.length)
  have hpf:=fun {d:Option AV}=>tk_out.pf hDy (d:=d)
  have hpf':=fun {d:Option AV}=>tk_out.pf hDy' (d:=d)
  obtain ⟨_,_,rfl,⟨k,rfl⟩,⟨n',rfl⟩⟩:=hDy;obtain ⟨_,_,rfl,⟨k',rfl⟩,⟨m',rfl⟩⟩:=hDy';rw [hd,hd',oP]at hq;by_cases k2:k=k'/\n'=m'
  ·rw [decide_eq_true k2,Bool.true_and]at hq
   obtain ⟨rfl,rfl⟩:=k2;simp +contextual +decide (maxSteps:=1000000) only [↓ wP,wQ,tf,Nat.reduceAdd,wS,reduceCtorEq,t0,t1,t12,t13,hs.idx,hy.idx,hix,hix',hc,hc',hpf,hpf',DS,hw];exact ⟨i+1,by show _-_<_-_;omega,_,_,_,_,rfl,by simp +decide only [↓ aB,aE,aC,t0],by simp +decide only [↓ aB,aE,aC,t1],by simp +decide only [↓ aB,aE,aC,t12],by simp +decide only [↓ aB,aE,aC],by omega,hlt,hq⟩
  ·rw [decide_eq_false k2,Bool.false_and]at hq
   simp +contextual +decide (maxSteps:=1000000) only [↓ wP,wQ,tf,Nat.reduceAdd,wS,reduceCtorEq,t0,t1,t12,t13,hs.idx,hy.idx,hix,hix',hc,hc',hpf,hpf',DS,k2,hq]
 ·obtain rfl:i=xs.length:=Nat.le_antisymm hi hge
  rw [List.drop_length,k1,List.drop_length]at hq;rw [show bK [] []=true from rfl]at hq;simp +contextual +decide (maxSteps:=1000000) only [↓ wP,wQ,tf,Nat.reduceAdd,wS,reduceCtorEq,t0,t1,t12,t13,aS,hq]
abbrev WL:List AV->Option AV:=oU (fun a b=>eU a/\eU b) fun a b=>.bool (LC a.els b.els)
theorem beginsI_ok:Abs.Ok Tryz.prog 65 WL:=ok2 fun a b ⟨ha,hb⟩=>by
 have hua:=(aP a ha).1;have hub:=(aP b hb).1;have hb':=hb;obtain ⟨xs,hs,hxs⟩:=ha;obtain ⟨ys,hy,hys⟩:=hb;rw [hs.els,hy.els,LC];refine aG (L:=[ent 68 gA]) (elist_cons equalI_ok.ent aH) aM (by kernel_rfl) Tryz.func65 Tryz.ntmps65 Tryz.results65 rfl rfl (aA hua.und (aA hub.und aF)) aJ ?_;by_cases k0:ys.length<=xs.length
 ·have k1:(((xs.length:Nat):Int) ≥ ((ys.length:Nat):Int))=True:=eq_true (by omega)
  have k1':(((ys.length:Nat):Int)<=((xs.length:Nat):Int))=True:=eq_true (by omega);obtain ⟨c,hc,hsl⟩:=hs.upto (k:=1) (fun x hm=>tu_int.len (hxs x hm)) (n:=((ys.length:Nat):Int)) (by omega) (by omega);rw [Int.toNat_natCast]at hc
  have he:gA [c,b]=some (.bool (cI (xs.take ys.length) ys)):=by
   rw [gA,sg2_eq ⟨⟨_,hc,fun x hx=>hxs x (List.mem_of_mem_take hx)⟩,hb'⟩,hc.els,hy.els]
  rw [decide_eq_true k0,Bool.true_and];simp +contextual +decide (maxSteps:=1000000) only [↓ wP,wQ,tf,Nat.reduceAdd,wS,reduceCtorEq,hs.len,hy.len,k1,k1',hsl,he]
 ·have k1:(((xs.length:Nat):Int) ≥ ((ys.length:Nat):Int))=False:=eq_false (by omega)
  have k1':(((ys.length:Nat):Int)<=((xs.length:Nat):Int))=False:=eq_false (by omega);rw [decide_eq_false k0,Bool.false_and];simp +contextual +decide (maxSteps:=1000000) only [↓ wP,wQ,tf,Nat.reduceAdd,wS,reduceCtorEq,hs.len,hy.len,k1,k1']
abbrev WM:List AV->Option AV:=oU (fun a b=>TSl lB a/\TSl lB b) fun a b=>.bool (LD a.els b.els)
theorem beginsO_ok:Abs.Ok Tryz.prog 66 WM:=ok2 fun a b ⟨ha,hb⟩=>by
 have hua:=(bV a ha).1;have hub:=(bV b hb).1;have hb':=hb;obtain ⟨xs,hs,hxs⟩:=ha;obtain ⟨ys,hy,hys⟩:=hb;rw [hs.els,hy.els,LD];refine aG (L:=[ent 114 nA]) (elist_cons equalO_ok.ent aH) aM (by kernel_rfl) Tryz.func66 Tryz.ntmps66 Tryz.results66 rfl rfl (aA hua.und (aA hub.und aF)) aJ ?_;by_cases k0:ys.length<=xs.length
 ·have k1:(((xs.length:Nat):Int) ≥ ((ys.length:Nat):Int))=True:=eq_true (by omega)
  have k1':(((ys.length:Nat):Int)<=((xs.length:Nat):Int))=True:=eq_true (by omega);obtain ⟨c,hc,hsl⟩:=hs.upto (k:=2) (fun x hm=>tk_out.len (hxs x hm)) (n:=((ys.length:Nat):Int)) (by omega) (by omega);rw [Int.toNat_natCast]at hc
  have he:nA [c,b]=some (.bool (bK (xs.take ys.length) ys)):=by
   rw [nA,sg2_eq ⟨⟨_,hc,fun x hx=>hxs x (List.mem_of_mem_take hx)⟩,hb'⟩,hc.els,hy.els]
  rw [decide_eq_true k0,Bool.true_and];simp +contextual +decide (maxSteps:=1000000) only [↓ wP,wQ,tf,Nat.reduceAdd,wS,reduceCtorEq,hs.len,hy.len,k1,k1',hsl,he]
 ·have k1:(((xs.length:Nat):Int) ≥ ((ys.length:Nat):Int))=False:=eq_false (by omega)
  have k1':(((ys.length:Nat):Int)<=((xs.length:Nat):Int))=False:=eq_false (by omega);rw [decide_eq_false k0,Bool.false_and];simp +contextual +decide (maxSteps:=1000000) only [↓ wP,wQ,tf,Nat.reduceAdd,wS,reduceCtorEq,hs.len,hy.len,k1,k1']
abbrev BU (os ts us is no os' ts' us' is' no':AV):AV:=.agg [os,ts,us,is,no,os',ts',us',is',no']
def gB (a:AV):AV:=wg (a.fld 0) (a.fld 1) (a.fld 2) (a.fld 3) (a.fld 4)
def gW (a:AV):AV:=wg (a.fld 5) (a.fld 6) (a.fld 7) (a.fld 8) (a.fld 9)
def UsB (no:AV):Prop:=0<=no.num/\no.num<=1000000000
structure GR (os ts us is no os' ts' us' is' no':AV):Prop where
 w:WG os ts us is no
 s:WG os' ts' us' is' no'
 u:UsB no
 v:UsB no'
def TGr (a:AV):Prop:=∃ os ts us is no os' ts' us' is' no',a=BU os ts us is no os' ts' us' is' no'/\GR os ts us is no os' ts' us' is' no'
theorem sY {a b c d e a' b' c' d' e':AV}:aX [a,b,c,d,e,a',b',c',d',e'] 0 10=[a,b,c,d,e,a',b',c',d',e']/\aX [a,b,c,d,e,a',b',c',d',e'] 0 5=[a,b,c,d,e]/\aX [a,b,c,d,e,a',b',c',d',e'] 5 5=[a',b',c',d',e']:=⟨rfl,rfl,rfl⟩
theorem aFw:(∀ {a0 a1 a2 a3 a4 a5 a6 a7 a8 a9 x0 x1 x2 x3 x4:AV},bZ [a0,a1,a2,a3,a4,a5,a6,a7,a8,a9] 0 [x0,x1,x2,x3,x4]=[x0,x1,x2,x3,x4,a5,a6,a7,a8,a9])/\(∀ {a0 a1 a2 a3 a4 a5 a6 a7 a8 a9 x0 x1 x2 x3 x4:AV},bZ [a0,a1,a2,a3,a4,a5,a6,a7,a8,a9] 5 [x0,x1,x2,x3,x4]=[a0,a1,a2,a3,a4,x0,x1,x2,x3,x4])/\(∀ {a0 a1 a2 a3 a4 x0 x1 x2 x3 x4:AV},bZ [a0,a1,a2,a3,a4] 0 [x0,x1,x2,x3,x4]=[x0,x1,x2,x3,x4]):=⟨rfl,rfl,rfl⟩
theorem PL {a b c d e a' b' c' d' e':AV} (h:UnderE 0 (wg a b c d e)) (h':UnderE 0 (wg a' b' c' d' e')):UnderE 0 (BU a b c d e a' b' c' d' e'):=by
 obtain ⟨n,hn⟩:=h;obtain ⟨m,hm⟩:=h'
 cases n with
 | zero=>simp [AV.under]at hn
 | succ n=>
 cases m with
 | zero=>simp [AV.under]at hm
 | succ m=>
 have h1:=jZ ⟨n+1,hn⟩;have h2:=jZ ⟨m+1,hm⟩
 exact fP fun x hx=>(List.mem_append.1 (show x∈[a,b,c,d,e]++[a',b',c',d',e'] from hx)).elim (h1 x) (h2 x)
theorem GR.und {os ts us is no os' ts' us' is' no':AV} (h:GR os ts us is no os' ts' us' is' no'):Und 0 (BU os ts us is no os' ts' us' is' no'):=(PL h.w.und h.s.und).und
abbrev WN:List AV->Option AV:=qR TGr fun a=>.int .i64 (jY (gB a) (gW a))
theorem used_ok:Abs.Ok Tryz.prog 67 WN:=vY fun a ⟨os,ts,us,is,no,os',ts',us',is',no',e,h⟩=>by
 subst e;have hu:=h.und;obtain ⟨c1,c2,c3,c4,c5⟩:=h.w.cells;obtain ⟨c6,c7,c8,c9,c10⟩:=h.s.cells;obtain ⟨m,rfl⟩:=h.w.no;obtain ⟨n,rfl⟩:=h.s.no;obtain ⟨u1,u2⟩:0<=m/\m<=1000000000:=h.u;obtain ⟨v1,v2⟩:0<=n/\n<=1000000000:=h.v;have hw:IntKind.i64.wrap (n-m)=n-m:=IntWalk.i64_in _ (by omega);rw [show jY (gB (BU os ts us is (.int .i64 m) os' ts' us' is' (.int .i64 n))) (gW (BU os ts us is (.int .i64 m) os' ts' us' is' (.int .i64 n)))=n-m from rfl];refine aG (L:=[]) aH aM (by kernel_rfl) Tryz.func67 Tryz.ntmps67 Tryz.results67 rfl rfl (aA hu aF) aV ?_;simp +contextual +decide (maxSteps:=1000000) only [↓ wP,wQ,tf,Nat.reduceAdd,wS,reduceCtorEq,c1,c2,c3,c4,c5,c6,c7,c8,c9,c10,sY,hw]
abbrev LF:List AV->Option AV:=qR TGr fun a=>.bool (dO (gB a) (gW a))
set_option maxHeartbeats 8000000 in
theorem after_ok:Abs.Ok Tryz.prog 30 LF:=vY fun a ⟨os,ts,us,is,no,os',ts',us',is',no',e,h⟩=>by
 subst e;have hu:=h.und;obtain ⟨c1,c2,c3,c4,c5⟩:=h.w.cells;obtain ⟨c6,c7,c8,c9,c10⟩:=h.s.cells;have e0:WN [BU os ts us is no os' ts' us' is' no']=some (.int .i64 (jY (gB (BU os ts us is no os' ts' us' is' no')) (gW (BU os ts us is no os' ts' us' is' no')))):=cA ⟨_,_,_,_,_,_,_,_,_,_,rfl,h⟩;have e1:WL [ts',ts]=some (.bool (LC ts'.els ts.els)):=sg2_eq ⟨h.s.ts,h.w.ts⟩;have e2:WM [us',us]=some (.bool (LD us'.els us.els)):=sg2_eq ⟨h.s.us,h.w.us⟩;obtain ⟨xo,ho,hox⟩:=h.w.os;obtain ⟨xo',ho',hox'⟩:=h.s.os;obtain ⟨xi,hi,hix0⟩:=h.w.is
 have hsp:dO (gB (BU os ts us is no os' ts' us' is' no')) (gW (BU os ts us is no os' ts' us' is' no'))=(decide (xo.length<=xo'.length)&&(LC ts'.els ts.els&&(LD us'.els us.els&&(decide (0<=jY (gB (BU os ts us is no os' ts' us' is' no')) (gW (BU os ts us is no os' ts' us' is' no')))&&(decide (jY (gB (BU os ts us is no os' ts' us' is' no')) (gW (BU os ts us is no os' ts' us' is' no'))<=(xi.length:Nat))&&(cI is'.els (xi.drop (jY (gB (BU os ts us is no os' ts' us' is' no')) (gW (BU os ts us is no os' ts' us' is' no'))).toNat)&&fZ xo xo')))))):=by
  rw [<-ho.els,<-ho'.els,<-hi.els];rfl
 generalize dO (gB (BU os ts us is no os' ts' us' is' no')) (gW (BU os ts us is no os' ts' us' is' no'))=W at *;generalize jY (gB (BU os ts us is no os' ts' us' is' no')) (gW (BU os ts us is no os' ts' us' is' no'))=U at *;refine aG (L:=[ent 65 WL,ent 66 WM,ent 67 WN,ent 68 gA,ent 69 qI]) (elist_cons beginsI_ok.ent (elist_cons beginsO_ok.ent (elist_cons used_ok.ent (elist_cons equalI_ok.ent (elist_cons wSame_ok.ent aH))))) (fun r=>(bif Nat.beq r 4 then [21] else [],[])) (by kernel_rfl) Tryz.func30 Tryz.ntmps30 Tryz.results30 rfl rfl (aA hu aF) aJ ?_;by_cases k0:xo.length<=xo'.length
 rotate_left
 ·have k0':(((xo'.length:Nat):Int)<((xo.length:Nat):Int))=True:=eq_true (by omega)
  rw [decide_eq_false k0,Bool.false_and]at hsp;simp +contextual +decide (maxSteps:=1000000) only [↓ wP,wQ,tf,Nat.reduceAdd,wS,reduceCtorEq,c1,c2,c3,c4,c5,c6,c7,c8,c9,c10,ho.len,ho'.len,k0',hsp]
 have k0':(((xo'.length:Nat):Int)<((xo.length:Nat):Int))=False:=eq_false (by omega);rw [decide_eq_true k0,Bool.true_and]at hsp
 cases k1:LC ts'.els ts.els with
 | false=>
   rw [k1,Bool.false_and]at hsp;simp +contextual +decide (maxSteps:=1000000) only [↓ wP,wQ,tf,Nat.reduceAdd,wS,reduceCtorEq,c1,c2,c3,c4,c5,c6,c7,c8,c9,c10,ho.len,ho'.len,k0',e1,k1,hsp]
 | true=>
 rw [k1,Bool.true_and]at hsp
 cases k2:LD us'.els us.els with
 | false=>
   rw [k2,Bool.false_and]at hsp;simp +contextual +decide (maxSteps:=1000000) only [↓ wP,wQ,tf,Nat.reduceAdd,wS,reduceCtorEq,c1,c2,c3,c4,c5,c6,c7,c8,c9,c10,ho.len,ho'.len,k0',e1,k1,e2,k2,hsp]
 | true=>
 rw [k2,Bool.true_and]at hsp;by_cases k3:0<=U
 rotate_left
 ·have k3':(U<0)=True:=eq_true (by omega)
  rw [decide_eq_false k3,Bool.false_and]at hsp;simp +contextual +decide (maxSteps:=1000000) only [↓ wP,wQ,tf,Nat.reduceAdd,wS,reduceCtorEq,c1,c2,c3,c4,c5,c6,c7,c8,c9,c10,ho.len,ho'.len,k0',e1,k1,e2,k2,sY,e0,k3',hsp]
 have k3':(U<0)=False:=eq_false (by omega);rw [decide_eq_true k3,Bool.true_and]at hsp
 have st1:=fun {Y:Nat->Prop}=>hi.stab (Y:=Y)
 have st2:=fun {Y:Nat->Prop}=>h.s.is.choose_spec.1.stab (Y:=Y)
 by_cases k4:U<=((xi.length:Nat):Int)
 rotate_left
 ·have k4':(U > ((xi.length:Nat):Int))=True:=eq_true (by omega)
  rw [decide_eq_false k4,Bool.false_and]at hsp;simp +contextual +decide (maxSteps:=1000000) only [↓ wP,wQ,tf,Nat.reduceAdd,wS,reduceCtorEq,c1,c2,c3,c4,c5,c6,c7,c8,c9,c10,ho.len,ho'.len,hi.len,k0',e1,k1,e2,k2,sY,e0,k3',k4',st1,hsp]
 have k4':(U > ((xi.length:Nat):Int))=False:=eq_false (by omega);rw [decide_eq_true k4,Bool.true_and]at hsp;obtain ⟨c,hc,hsl⟩:=hi.from (k:=1) (fun x hm=>tu_int.len (hix0 x hm)) k3 k4
 have e4:gA [is',c]=some (.bool (cI is'.els (xi.drop U.toNat))):=by
  rw [gA,sg2_eq ⟨h.s.is,_,hc,fun x hx=>hix0 x (List.mem_of_mem_drop hx)⟩,hc.els]
 cases k5:cI is'.els (xi.drop U.toNat) with
 | false=>
   rw [k5,Bool.false_and]at hsp;simp +contextual +decide (maxSteps:=1000000) only [↓ wP,wQ,tf,Nat.reduceAdd,wS,reduceCtorEq,c1,c2,c3,c4,c5,c6,c7,c8,c9,c10,ho.len,ho'.len,hi.len,k0',e1,k1,e2,k2,sY,e0,k3',k4',hsl,e4,k5,st1,st2,hsp]
 | true=>
 rw [k5,Bool.true_and]at hsp;simp +contextual +decide (maxSteps:=1000000) only [↓ wP,wQ,tf,Nat.reduceAdd,wS,reduceCtorEq,c1,c2,c3,c4,c5,c6,c7,c8,c9,c10,ho.len,ho'.len,hi.len,k0',e1,k1,e2,k2,sY,e0,k3',k4',hsl,e4,k5,st1,st2];refine aR (fun i e=>∃ t n low o,e=⟨97,none,30,t,[],⟨n,low,o⟩,.no⟩/\t.val 1=.ptr 0 0 0/\t.val 68=os/\t.val 69=.int .i64 (xo.length:Nat)/\t.val 70=.int .i64 (i:Nat)/\o.get 0=some (bA 0 [os,ts,us,is,no,os',ts',us',is',no'])/\1<=n/\i<=xo.length/\W=fZ (xo.drop i) (xo'.drop i)) (fun i=>xo.length-i) 0 ⟨_,_,_,_,rfl,by simp +decide only [↓ aB,aE,aC,k0],by simp +decide only [↓ aB,aE,aC,k0],by simp +decide only [↓ aB,aE,aC,k0],by simp +decide only [↓ aB,aE,aC,k0];rfl,by simp +decide only [↓ aB,aI,aC,ne_eq,k0],by omega,Nat.zero_le _,hsp⟩ ?_;rintro i _ ⟨t,n,low,o,rfl,t1,t68,t69,t70,g0,hn,hi,hq⟩;have f0:=cZ (show 0<n by omega)
 rcases Nat.lt_or_ge i xo.length with hlt | hge
 ·obtain ⟨x,hDx,hm,hg,hd,hix,hw,hc⟩:=bB (fun x h=>tk_ob.len h) hox ho.2 hlt
  obtain ⟨x',hDx',hm',hg',hd',hix',hw',hc'⟩:=bB (fun x h=>tk_ob.len h) hox' ho'.2 (by omega:i<xo'.length)
  have hpf:=fun {d:Option AV}=>tk_ob.pf hDx (d:=d)
  have hpf':=fun {d:Option AV}=>tk_ob.pf hDx' (d:=d)
  have b2:qI [x,x']=some (.bool (fX x x')):=sg2_eq ⟨hDx,hDx'⟩;rw [hd,hd',fZ,HJ]at hq;obtain ⟨_,_,va,fr,rfl,⟨k,rfl⟩,⟨nu,rfl⟩,hva,hfr⟩:=hDx;obtain ⟨_,_,va',fr',rfl,⟨k',rfl⟩,⟨nu',rfl⟩,hva',hfr'⟩:=hDx';have cv:=(aO _ hva).2;have cf:=(bR _ hfr).2;have cv':=(aO _ hva').2;have cf':=(bR _ hfr').2;rw [show ((AV.agg [.int .i64 k,.int .i64 nu,va,fr]).fld 0).num=k from rfl,show ((AV.agg [.int .i64 k',.int .i64 nu',va',fr']).fld 0).num=k' from rfl]at hq;by_cases j1:k=k'
  rotate_left
  ·rw [decide_eq_false j1,Bool.false_and,Bool.false_and]at hq
   simp +contextual +decide (maxSteps:=1000000) only [↓ wP,wQ,tf,Nat.reduceAdd,wS,reduceCtorEq,t1,t68,t69,t70,g0,f0,c1,c2,c3,c4,c5,c6,c7,c8,c9,c10,ho.idx,ho'.idx,hix,hix',hc,hpf,hpf',bM,cv,cf,cv',cf',j1,hq]
  rw [decide_eq_true j1,Bool.true_and]at hq;subst j1;by_cases j2:xI k=true
  ·rw [j2,Bool.not_true,Bool.false_or]at hq
   have j3:k=1∨k=2∨k=5:=by simpa [xI] using j2
   cases j4:fX (.agg [.int .i64 k,.int .i64 nu,va,fr]) (.agg [.int .i64 k,.int .i64 nu',va',fr']) with
   | false=>
     rw [j4,Bool.false_and]at hq
     rcases j3 with rfl | rfl | rfl<;>
     simp +contextual +decide (maxSteps:=1000000) only [↓ wP,wQ,tf,Nat.reduceAdd,wS,reduceCtorEq,t1,t68,t69,t70,g0,f0,c1,c2,c3,c4,c5,c6,c7,c8,c9,c10,ho.idx,ho'.idx,hix,hix',hc,hpf,hpf',bM,cv,cf,cv',cf',b2,j4,hq]
   | true=>
     rw [j4,Bool.true_and]at hq
     rcases j3 with rfl | rfl | rfl<;>
     (simp +contextual +decide (maxSteps:=1000000) only [↓ wP,wQ,tf,Nat.reduceAdd,wS,reduceCtorEq,t1,t68,t69,t70,g0,f0,c1,c2,c3,c4,c5,c6,c7,c8,c9,c10,ho.idx,ho'.idx,hix,hix',hc,hpf,hpf',bM,cv,cf,cv',cf',b2,j4,hw];exact ⟨i+1,by show _-_<_-_;omega,_,_,_,_,rfl,by simp +decide only [↓ aB,aE,aC,t1],by simp +decide only [↓ aB,aE,aC,t68],by simp +decide only [↓ aB,aE,aC,t69],by simp +decide only [↓ aB,aE,aC],by simp +decide only [↓ aB,aI,aC,ne_eq,g0,f0,bM],by omega,hlt,hq⟩)
  ·rw [Bool.not_eq_true]at j2
   rw [j2,Bool.not_false,Bool.true_or,Bool.true_and]at hq
   obtain ⟨p1,p2,p3⟩:k≠1/\k≠2/\k≠5:=by simpa [xI] using j2
   simp +contextual +decide (maxSteps:=1000000) only [↓ wP,wQ,tf,Nat.reduceAdd,wS,reduceCtorEq,t1,t68,t69,t70,g0,f0,c1,c2,c3,c4,c5,c6,c7,c8,c9,c10,ho.idx,ho'.idx,hix,hix',hc,hpf,hpf',bM,cv,cf,cv',cf',p1,p2,p3,hw];exact ⟨i+1,by show _-_<_-_;omega,_,_,_,_,rfl,by simp +decide only [↓ aB,aE,aC,t1],by simp +decide only [↓ aB,aE,aC,t68],by simp +decide only [↓ aB,aE,aC,t69],by simp +decide only [↓ aB,aE,aC],by simp +decide only [↓ aB,aI,aC,ne_eq,g0,f0,bM],by omega,hlt,hq⟩
 ·obtain rfl:i=xo.length:=Nat.le_antisymm hi hge
  rw [List.drop_length,fZ]at hq;simp +contextual +decide (maxSteps:=1000000) only [↓ wP,wQ,tf,Nat.reduceAdd,wS,reduceCtorEq,t1,t68,t69,t70,g0,f0,aS,hq]
end
end Go.Proofs.YtifmdaalhclhgaaGreat
