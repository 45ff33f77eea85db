/-
  The law's worlds by numbers: the small functions.
-/
import Derived.Test.YtajngkkihadgfaaIk
set_option linter.unusedVariables false
set_option linter.unusedSimpArgs false
namespace Go.Proofs.Ytajngkkihadgfaa
open Go.Abs Go Go.Abs.TryF
noncomputable section
set_option maxRecDepth 10000
def pF (n:Nat):Int:=((((n%4:Nat):Int)-2)*((2 ^ (n/4%30):Nat):Int)).tdiv ((max 1 (n/200%7):Nat):Int)
def gY (n m:Nat):eA:=if n%7=0 then (2,((n/7%2:Nat):Int)) else if n%7=1 then (3,0) else if n%7=2 then (4,(n:Nat)) else if n%7=3 then (5,((n/7%m:Nat):Int)) else (1,pF (n/7))
theorem HR {a:Nat} (h:a<65536):IntKind.u16.wrap (a:Int)=(a:Nat):=by rw [aCw];omega
def gnV:List AV->Option AV
 | [.int .u16 n]=>if 0<=n/\n<65536 then some (.int .i64 (pF n.toNat)) else none
 | _=>none
theorem HS {n:Nat} (h:n<65536):gnV [.int .u16 (n:Nat)]=some (.int .i64 (pF n)):=by
 simp only [gnV]
 rw [if_pos (by omega),Int.toNat_natCast]
theorem KX {e:Nat} (h:e<30):2 ^ e<=536870912:=Nat.le_trans (Nat.pow_le_pow_right (by omega) (show e<=29 by omega)) (by decide)
theorem aAf {a b:Int} (ha:-2<=a) (ha':a<=1) (hb:0<=b) (hb':b<=536870912):-1073741824<=a*b/\a*b<=536870912:=by
 have h:a=-2∨a=-1∨a=0∨a=1:=by omega
 rcases h with rfl | rfl | rfl | rfl<;>omega
theorem aFp {x y:Int} {m:Int} (hy:1<=y) (h1:-m<=x) (h2:x<=m):-m<=x.tdiv y/\x.tdiv y<=m:=by
 have h:(x.tdiv y).natAbs<=x.natAbs:=by rw [Int.natAbs_tdiv];exact Nat.div_le_self _ _
 omega
theorem TF (n:Nat):-1073741824<=pF n/\pF n<=1073741824:=by
 have e4:=KX (e:=n/4%30) (by omega)
 unfold pF
 generalize 2 ^ (n/4%30)=p at *
 have h:=aAf (a:=((n%4:Nat):Int)-2) (b:=((p:Nat):Int)) (by omega) (by omega) (by omega) (by omega)
 exact aFp (by omega) (by omega) (by omega)
theorem lnumber_ok:Abs.Ok Try.prog 38 gnV:=by
 intro args v hg
 unfold gnV at hg
 split at hg
 rotate_left
 ·cases hg
 rename_i n
 split at hg
 rotate_left
 ·cases hg
 rename_i hn
 cases hg
 obtain ⟨k,rfl⟩:∃ k:Nat,n=k:=⟨n.toNat,by omega⟩
 have hk:k<65536:=by omega
 rw [Int.toNat_natCast]
 refine bQ (L:=[]) bC aR (by kernel_rfl) Try.func38 Try.ntmps38 Try.results38 rfl rfl (aF aV aO) aV ?_
 have e0:=cF (n:=k) (by omega)
 have e1:Int.tmod (k:Int) 4=((k%4:Nat):Int):=dB
 have e2:IntKind.u16.wrap (Int.tdiv (k:Int) 4)=((k/4:Nat):Int):=by rw [show Int.tdiv (k:Int) 4=((k/4:Nat):Int) from iY];exact HR (by omega)
 have e3:Int.tmod ((k/4:Nat):Int) 30=((k/4%30:Nat):Int):=dB
 have e4:=KX (e:=k/4%30) (by omega)
 have e5:∀ {t:TypeId} {x y:Operand},abin Try.prog .shl t x y (.int .i64 1) (.int .u16 ((k/4%30:Nat):Int))=some (.int .i64 ((2 ^ (k/4%30):Nat):Int)):=fun {t x y}=>by
  rw [nV (by omega),Int.toNat_natCast,show min (k/4%30) IntKind.i64.bits=k/4%30 from Nat.min_eq_left (show k/4%30<=64 by omega),Int.one_mul,show ((2:Int) ^ (k/4%30))=((2 ^ (k/4%30):Nat):Int) from (Int.natCast_pow 2 _).symm,cF (by omega)]
 have e6:IntKind.i64.wrap (((k%4:Nat):Int)-2)=((k%4:Nat):Int)-2:=IntWalk.i64_in _ (by omega)
 have e7:IntKind.i64.wrap ((((k%4:Nat):Int)-2)*((2 ^ (k/4%30):Nat):Int))=(((k%4:Nat):Int)-2)*((2 ^ (k/4%30):Nat):Int):=by
  clear e5
  generalize 2 ^ (k/4%30)=p at *
  have h:=aAf (a:=((k%4:Nat):Int)-2) (b:=((p:Nat):Int)) (by omega) (by omega) (by omega) (by omega)
  exact IntWalk.i64_in _ (by omega)
 have e8:IntKind.i64.wrap (Int.tdiv (k:Int) 200)=((k/200:Nat):Int):=by rw [show Int.tdiv (k:Int) 200=((k/200:Nat):Int) from iY];exact cF (by omega)
 have e9:Int.tmod ((k/200:Nat):Int) 7=((k/200%7:Nat):Int):=dB
 have e10:(if (((k/200%7:Nat):Int)) > 1 then (((k/200%7:Nat):Int)) else 1)=((max 1 (k/200%7):Nat):Int):=by split<;>omega
 have e11:(((max 1 (k/200%7):Nat):Int))≠0:=by omega
 have e12:IntKind.i64.wrap (pF k)=pF k:=IntWalk.i64_in _ (by have:=TF k;omega)
 have e13:((((k%4:Nat):Int)-2)*((2 ^ (k/4%30):Nat):Int)).tdiv ((max 1 (k/200%7):Nat):Int)=pF k:=rfl
 simp +contextual +decide (maxSteps:=1000000) only [↓ wP,wQ,tf,Nat.reduceAdd,ne_eq,e0,e1,e2,e3,e5,e6,e7,e8,e9,aLe,e10,e11,e13,e12]
def gwV:List AV->Option AV
 | [.int .i64 n]=>some (fJ (1,n))
 | _=>none
theorem aJx {n:Int}:gwV [.int .i64 n]=some (.agg [.int .i64 1,.int .i64 n]):=rfl
theorem lwhole_ok:Abs.Ok Try.prog 58 gwV:=by
 intro args v hg
 unfold gwV at hg
 split at hg<;>cases hg
 rename_i n
 refine bQ (L:=[]) bC aR (by kernel_rfl) Try.func58 Try.ntmps58 Try.results58 rfl rfl (aF aV aO) wZ ?_
 simp +contextual +decide (maxSteps:=1000000) only [↓ wP,wQ,tf,Nat.reduceAdd,ne_eq,aL,Option.bind_some,bF]
 rfl
def gpV:List AV->Option AV
 | [.int .i64 n]=>some (fJ (5,n))
 | _=>none
theorem aJy {n:Int}:gpV [.int .i64 n]=some (.agg [.int .i64 5,.int .i64 n]):=rfl
theorem lpoint_ok:Abs.Ok Try.prog 60 gpV:=by
 intro args v hg
 unfold gpV at hg
 split at hg<;>cases hg
 rename_i n
 refine bQ (L:=[]) bC aR (by kernel_rfl) Try.func60 Try.ntmps60 Try.results60 rfl rfl (aF aV aO) wZ ?_
 simp +contextual +decide (maxSteps:=1000000) only [↓ wP,wQ,tf,Nat.reduceAdd,ne_eq,aL,Option.bind_some,bF]
 rfl
def guV:List AV->Option AV
 | []=>some (fJ (3,0))
 | _=>none
theorem aJz:guV []=some (.agg [.int .i64 3,.int .i64 0]):=rfl
theorem lunit_ok:Abs.Ok Try.prog 59 guV:=by
 intro args v hg
 unfold guV at hg
 split at hg<;>cases hg
 refine bQ (L:=[]) bC aR (by kernel_rfl) Try.func59 Try.ntmps59 Try.results59 rfl rfl aO wZ ?_
 simp +contextual +decide (maxSteps:=1000000) only [↓ wP,wQ,tf,Nat.reduceAdd,ne_eq,aL,Option.bind_some,bF]
 rfl
def KY:List AV->Option AV
 | [.int .u16 n,.int .i64 m]=>if 0<=n/\n<65536/\0<m/\m<1000 then some (fJ (gY n.toNat m.toNat)) else none
 | _=>none
theorem KZ {n m:Nat} (h:n<65536) (h':0<m) (h'':m<1000):KY [.int .u16 (n:Nat),.int .i64 (m:Nat)]=some (.agg [.int .i64 (gY n m).1,.int .i64 (gY n m).2]):=by
 simp only [KY]
 rw [if_pos (by omega),Int.toNat_natCast,Int.toNat_natCast];rfl
abbrev aPf:List kL:=[ent 38 gnV,ent 58 gwV,ent 59 guV,ent 60 gpV]
set_option maxHeartbeats 1000000 in
theorem lvalue_ok:Abs.Ok Try.prog 39 KY:=by
 intro args v hg
 unfold KY at hg
 split at hg
 rotate_left
 ·cases hg
 rename_i n m
 split at hg
 rotate_left
 ·cases hg
 rename_i hn
 cases hg
 obtain ⟨k,rfl⟩:∃ k:Nat,n=k:=⟨n.toNat,by omega⟩
 obtain ⟨j,rfl⟩:∃ j:Nat,m=j:=⟨m.toNat,by omega⟩
 rw [Int.toNat_natCast,Int.toNat_natCast]
 refine bQ (L:=aPf) (elist_cons lnumber_ok.ent (elist_cons lwhole_ok.ent (elist_cons lunit_ok.ent (elist_cons lpoint_ok.ent bC)))) aR (by kernel_rfl) Try.func39 Try.ntmps39 Try.results39 rfl rfl (aF aV (aF aV aO)) wZ ?_
 have e1:Int.tmod (k:Int) 7=((k%7:Nat):Int):=dB
 have e2:IntKind.u16.wrap (Int.tdiv (k:Int) 7)=((k/7:Nat):Int):=by rw [show Int.tdiv (k:Int) 7=((k/7:Nat):Int) from iY];exact HR (by omega)
 have e3:Int.tmod ((k/7:Nat):Int) 2=((k/7%2:Nat):Int):=dB
 have e4:=cF (n:=k/7) (by omega)
 have e5:Int.tmod ((k/7:Nat):Int) ((j:Nat):Int)=((k/7%j:Nat):Int):=dB
 have e6:=cF (n:=k/7%2) (by omega)
 have e7:=cF (n:=k) (by omega)
 have e8:=HS (n:=k/7) (by omega)
 have e9:((j:Nat):Int)≠0:=by omega
 have c0:(((k%7:Nat):Int)=0)=(k%7=0):=propext (by omega)
 have c1:(((k%7:Nat):Int)=1)=(k%7=1):=propext (by omega)
 have c2:(((k%7:Nat):Int)=2)=(k%7=2):=propext (by omega)
 have c3:(((k%7:Nat):Int)=3)=(k%7=3):=propext (by omega)
 unfold gY
 by_cases h0:k%7=0
 ·simp +contextual +decide (maxSteps:=1000000) only [↓ wP,wQ,tf,Nat.reduceAdd,ne_eq,e1,e2,e3,e6,c0,h0,aL,Option.bind_some,bF]
  rfl
 rw [if_neg h0]
 by_cases h1:k%7=1
 ·simp +contextual +decide (maxSteps:=1000000) only [↓ wP,wQ,tf,Nat.reduceAdd,ne_eq,e1,c0,h0,c1,h1,aJz,aL,Option.bind_some,bF]
  rfl
 rw [if_neg h1]
 by_cases h2:k%7=2
 ·simp +contextual +decide (maxSteps:=1000000) only [↓ wP,wQ,tf,Nat.reduceAdd,ne_eq,e1,c0,h0,c1,h1,c2,h2,e7,aL,Option.bind_some,bF]
  rfl
 rw [if_neg h2]
 by_cases h3:k%7=3
 ·simp +contextual +decide (maxSteps:=1000000) only [↓ wP,wQ,tf,Nat.reduceAdd,ne_eq,e1,e2,c0,h0,c1,h1,c2,h2,c3,h3,e4,e5,e9,aJy,aL,Option.bind_some,bF]
  rfl
 rw [if_neg h3]
 simp +contextual +decide (maxSteps:=1000000) only [↓ wP,wQ,tf,Nat.reduceAdd,ne_eq,e1,e2,c0,h0,c1,h1,c2,h2,c3,h3,e8,aJx,aL,Option.bind_some,bF]
 rfl
end
end Go.Proofs.Ytajngkkihadgfaa
/-
 The law's comparisons: values,frames,objects,worlds.
-/
namespace Go.Proofs.Ytajngkkihadgfaa
open Go.Abs Go Go.Abs.TryF
noncomputable section
set_option maxRecDepth 10000
theorem aAg {f g:Ob} (h1:f.form=g.form) (h2:f.n=g.n) (h3:f.vals=g.vals) (h4:f.frs=g.frs):f=g:=by cases f;cases g;simp_all
theorem aAh {f g:Wd} (h1:f.objs=g.objs) (h2:f.tasks=g.tasks) (h3:f.outs=g.outs) (h4:f.ins=g.ins) (h5:f.used=g.used):f=g:=by cases f;cases g;simp_all
def HT:List AV->Option AV
 | [a,.int .i64 x]=>(dU a).map fun l=>.int .i64 (match (l.findIdx? fun y=>y==x) with | some i=>((i:Nat):Int) | none=>-1)
 | _=>none
theorem VL {a:AV} {l:List Int} {x:Int} (h:dU a=some l):HT [a,.int .i64 x]=some (.int .i64 (match (l.findIdx? fun y=>y==x) with | some i=>((i:Nat):Int) | none=>-1)):=by simp [HT,h]
theorem lindex_ok:Abs.Ok Try.prog 48 HT:=by
 intro args v hg
 match args,hg with
 | [a,.int .i64 x],hg=>
 obtain ⟨l,hl,rfl⟩:=Option.map_eq_some_iff.1 hg
 have ha:=lH hl
 have la:=ha.2
 simp only [List.length_map]at la
 refine bQ (L:=[]) bC aR (by kernel_rfl) Try.func48 Try.ntmps48 Try.results48 rfl rfl (aF (qV hl).und (aF aV aO)) aV ?_
 simp +contextual +decide (maxSteps:=1000000) only [↓ wP,wQ,tf,Nat.reduceAdd,ne_eq,ha.len,List.length_map]
 refine cB (fun i e=>∃ t,e=⟨19,none,48,t,[],⟨0,0,.leaf⟩,.no⟩/\t.val 0=a/\t.val 1=.int .i64 x/\t.val 7=.int .i64 (l.length:Nat)/\t.val 8=.int .i64 (i:Nat)/\i<=l.length/\∀ j,j<i->l.getD j default≠x) (fun i=>l.length-i) 0 ⟨_,rfl,by simp +decide only [↓ aB,aD,aC],by simp +decide only [↓ aB,aD,aC],by simp +decide only [↓ aB,aD,aC],by simp +decide only [↓ aB,aD,aC];rfl,Nat.zero_le _,fun j hj=>by omega⟩ ?_
 rintro i _ ⟨t,rfl,t0,t1,t7,t8,hi,hpre⟩
 by_cases hlt:i<l.length
 ·have d1:(i:Int)<(l.length:Nat):=by omega
  have d5:=bH (i:=i) (by omega)
  have x1:=fun {q d}=>nM (l:=l) i hlt (q:=q) (d:=d)
  by_cases he:x=l.getD i default
  ·simp +contextual +decide (maxSteps:=1000000) only [↓ wP,wQ,tf,Nat.reduceAdd,ne_eq,ha.len,ha.idx,List.length_map,t0,t1,t7,t8,d1,d5,x1,pI,he,bU]
   have hf:(l.findIdx? fun y=>y==l.getD i default)=some i:=by
    rw [List.findIdx?_eq_some_iff_getElem]
    refine ⟨hlt,by rw [<-aT (d:=default) hlt];simp,fun j hj=>?_⟩
    have:=hpre j hj
    rw [aT (show j<l.length by omega),he]at this
    simpa using this
   rw [hf]
  ·simp +contextual +decide (maxSteps:=1000000) only [↓ wP,wQ,tf,Nat.reduceAdd,ne_eq,ha.len,ha.idx,List.length_map,t0,t1,t7,t8,d1,d5,x1,pI,he,bU]
   refine ⟨i+1,by show _-_<_-_;omega,_,rfl,by simp +decide only [↓ aB,aD,aC,t0],by simp +decide only [↓ aB,aD,aC,t1],by simp +decide only [↓ aB,aD,aC,t7],by simp +decide only [↓ aB,aD,aC],hlt,fun j hj=>?_⟩
   rcases Nat.lt_succ_iff_lt_or_eq.1 hj with hj | rfl
   ·exact hpre j hj
   ·exact fun h=>he h.symm
 ·have d1:¬ (i:Int)<(l.length:Nat):=by omega
  have hf:(l.findIdx? fun y=>y==x)=none:=by
   rw [List.findIdx?_eq_none_iff]
   intro y hy
   obtain ⟨j,hj,rfl⟩:=List.mem_iff_getElem.1 hy
   have:=hpre j (by omega)
   rw [aT hj]at this
   simpa using this
  simp +contextual +decide (maxSteps:=1000000) only [↓ wP,wQ,tf,Nat.reduceAdd,ne_eq,ha.len,List.length_map,t0,t1,t7,t8,d1,hf]
def tE:List AV->Option AV
 | [a,.int .i64 x]=>(dU a).map fun l=>.bool (l.contains x)
 | _=>none
theorem HU {a:AV} {l:List Int} {x:Int} (h:dU a=some l):tE [a,.int .i64 x]=some (.bool (l.contains x)):=by simp [tE,h]
theorem lcontains_ok:Abs.Ok Try.prog 21 tE:=by
 intro args v hg
 match args,hg with
 | [a,.int .i64 x],hg=>
 obtain ⟨l,hl,rfl⟩:=Option.map_eq_some_iff.1 hg
 refine bQ (L:=[ent 48 HT]) (elist_cons lindex_ok.ent bC) aR (by kernel_rfl) Try.func21 Try.ntmps21 Try.results21 rfl rfl (aF (qV hl).und (aF aV aO)) gQ ?_
 have e1:=VL (x:=x) hl
 cases hf:l.findIdx? fun y=>y==x with
 | none=>
   rw [hf]at e1
   have hn:l.contains x=false:=by
    rw [List.findIdx?_eq_none_iff]at hf
    cases h:l.contains x with
    | false=>rfl
    | true=>exact absurd (hf x (by simpa using h)) (by simp)
   simp +contextual +decide (maxSteps:=1000000) only [↓ wP,wQ,tf,Nat.reduceAdd,ne_eq,e1,hn,show ((0:Int)<=-1)=False from eq_false (by omega)]
 | some i=>
   rw [hf]at e1
   have hn:l.contains x=true:=by
    obtain ⟨h1,h2,_⟩:=List.findIdx?_eq_some_iff_getElem.1 hf
    have:l[i]=x:=by simpa using h2
    rw [<-this];simp
   simp +contextual +decide (maxSteps:=1000000) only [↓ wP,wQ,tf,Nat.reduceAdd,ne_eq,e1,hn,show ((0:Int)<=(i:Nat))=True from eq_true (by omega)]
end
end Go.Proofs.Ytajngkkihadgfaa
/-
 The law's worlds by numbers,in plain words;lists that lie in the store.
-/
namespace Go.Proofs.Ytajngkkihadgfaa
open Go.Abs Go Go.Abs.TryF
noncomputable section
set_option maxRecDepth 10000
structure Sc where
 objs:List (List Nat)
 tasks:List Nat
 outs:List (Nat × Nat)
 used:Nat
def qP (f:Fr->Fr) (l:List Fr):List Fr:=match l.getLast? with
 | none=>[]
 | some x=>l.dropLast++[f x]
theorem zP (f:Fr->Fr) (l:List Fr) (x:Fr):qP f (l++[x])=l++[f x]:=by simp [qP]
def iO (v:eA) (f:Fr):Fr:=⟨f.node,f.env++[v],f.vals⟩
def iP (v:eA) (f:Fr):Fr:=⟨f.node,f.env,f.vals++[v]⟩
def lD (m i x:Nat) (o:Ob):Ob:=
 if i=0 then ⟨o.form,pF x,o.vals,o.frs⟩
 else if i%5=4 then ⟨o.form,o.n,o.vals,o.frs++[⟨((x:Nat):Int),[],[]⟩]⟩
 else if o.frs=[] then ⟨o.form,o.n,o.vals++[gY x m],o.frs⟩
 else if x%2=0 then ⟨o.form,o.n,o.vals,qP (iO (gY (x/2) m)) o.frs⟩
 else ⟨o.form,o.n,o.vals,qP (iP (gY (x/2) m)) o.frs⟩
def HW (m:Nat):Nat->List Nat->Ob->Ob
 | _,[],o=>o
 | i,x::l,o=>HW m (i+1) l (lD m i x o)
def uT (m:Nat) (l:List Nat):Ob:=HW m 0 (l.take 20) ⟨((1+(l.take 20).length%6:Nat):Int),0,[],[]⟩
def oO:Nat->List (Nat × Nat)->List eA
 | _,[]=>[]
 | i,x::l=>if i%2=0 then (pF x.1,pF x.2)::oO (i+1) l else oO (i+1) l
def wB:Nat->List (Nat × Nat)->List Int
 | _,[]=>[]
 | i,x::l=>if i%2=0 then wB (i+1) l else pF x.1::wB (i+1) l
def qQ (m:Nat) (l:List Nat):List Int:=if m=0 then [] else (l.take 40).map fun t=>((t%m:Nat):Int)
def eD (s:Sc):Wd:=⟨(s.objs.take 40).map (uT (min s.objs.length 40)),qQ (min s.objs.length 40) s.tasks,oO 0 (s.outs.take 40),wB 0 (s.outs.take 40),((s.used:Nat):Int)⟩
def mS (n:Nat):AV:=.int .u16 (n:Nat)
def PL (v:Nat × Nat):AV:=.agg [.int .u16 (v.1:Nat),.int .u16 (v.2:Nat)]
def IsSc (a:AV) (s:Sc):Prop:=∃ os ts us xs,a=.agg [os,ts,us,.int .u16 (s.used:Nat)]/\Sl os xs/\xs.length=s.objs.length/\
 (∀ i,i<s.objs.length->Sl (xs.getD i .top) ((s.objs.getD i []).map mS)/\∀ n∈s.objs.getD i [],n<65536)/\Sl ts (s.tasks.map encB)/\(∀ n∈s.tasks,n<256)/\Sl us (s.outs.map PL)/\(∀ v∈s.outs,v.1<65536/\v.2<65536)/\s.used<65536
theorem zQ (l:List Nat):∀ x∈l.map mS,UnderE 0 x:=fun x hx=>by obtain ⟨a,_,rfl⟩:=List.mem_map.1 hx;exact ⟨1,rfl⟩
theorem IsSc.under {a:AV} {s:Sc} (h:IsSc a s):UnderE 0 a:=by
 obtain ⟨os,ts,us,xs,rfl,h1,h2,h3,h4,_,h5,_,_⟩:=h
 refine fD fun x hx=>?_
 simp at hx
 rcases hx with rfl | rfl | rfl | rfl
 ·refine pJ h1 fun x hx=>?_
  obtain ⟨i,hi,rfl⟩:=List.mem_iff_getElem.1 hx
  have:=(h3 i (by omega)).1
  rw [aT hi]at this
  exact pJ this (zQ _)
 ·exact pJ h4 fun x hx=>by obtain ⟨a,_,rfl⟩:=List.mem_map.1 hx;exact ⟨1,rfl⟩
 ·exact pJ h5 fun x hx=>by obtain ⟨a,_,rfl⟩:=List.mem_map.1 hx;exact ⟨2,rfl⟩
 ·exact ⟨1,rfl⟩
theorem TG {P:Program} {t:TypeId} {k:Nat} {a:AV} {xs:List AV} (h:Sl a xs) (hk:rV P t=some k) (hx:∀ x∈xs,x.cells.length=k) {m:Nat} (hm:m<=xs.length):∃ a',Sl a' (xs.take m)/\∀ {q:IntKind},gK P t a none (some (.int q (m:Nat))) none=some a':=by
 rcases h.1 with ⟨rfl,rfl⟩ | ⟨c,rfl⟩
 ·have:m=0:=by simpa using hm
  subst this
  refine ⟨.nils,⟨.inl ⟨rfl,rfl⟩,by simp⟩,fun {q}=>?_⟩
  rw [NI,hk]
  simp only [IY,uE]
  rw [mX (i:=((0:Nat):Int)) (n:=0) (by omega) (by omega)]
  simp only [mD]
 ·refine ⟨.fz (xs.take m) (c&&Nat.beq m xs.length),⟨.inr ⟨_,rfl⟩,by rw [List.length_take];have:=h.2;omega⟩,fun {q}=>?_⟩
  rw [QX,hk]
  have hall:(xs.all fun v=>Nat.beq v.cells.length k)=true:=List.all_eq_true.2 fun x hx'=>by rw [hx x hx'];exact Nat.beq_refl k
  show (match gJ _ xs.length xs.length with
   | some h=>_
   | none=>none)=_
  rw [mX (by omega) (by omega)]
  simp only [mD,hall,cond_true,aG,List.drop_zero,Nat.sub_zero,Int.toNat_natCast]
def Sv (c:Nat->Nat) (q n:Nat) (o:Tr AObj) (v:AV) (k:Nat) (cs:List (List AV)):Prop:=(cs=[]/\v=.nils)∨(cs≠[]/\∃ id g,v=.sl id g 0 cs.length (.room k)/\o.get id=some (bE g cs.flatten)/\c id=q/\id<n)
section
variable {c c':Nat->Nat} {q q' n n':Nat} {o o':Tr AObj}
theorem Sv.mono {v:AV} {k:Nat} {cs:List (List AV)} (h:Sv c q n o v k cs) (hn:n<=n') (hk:∀ id,id<n->c id=q->o'.get id=o.get id/\c' id=q'):Sv c' q' n' o' v k cs:=by
 rcases h with h | ⟨h,id,g,rfl,h1,h2,h3⟩
 ·exact .inl h
 ·obtain ⟨e1,e2⟩:=hk id h3 h2
  exact .inr ⟨h,id,g,rfl,by rw [e1];exact h1,e2,by omega⟩
theorem Sv.cell {v:AV} {k:Nat} {cs:List (List AV)} (h:Sv c q n o v k cs):v.isCell=true:=by
 rcases h with ⟨_,rfl⟩ | ⟨_,_,_,rfl,_⟩<;>rfl
theorem Sv.new {k id g:Nat} {cs:List (List AV)} (hc:cs≠[]) (hg:o.get id=some (bE g cs.flatten)) (h2:c id=q) (h3:id<n):Sv c q n o (.sl id g 0 cs.length (.room k)) k cs:=.inr ⟨hc,id,g,rfl,hg,h2,h3⟩
def L2 {α:Type} (R:List AV->α->Prop):List (List AV)->List α->Prop
 | [],[]=>True
 | x::l,y::m=>R x y/\L2 R l m
 | _,_=>False
theorem L2.mono {α:Type} {R S:List AV->α->Prop} (h:∀ x y,R x y->S x y):∀ {l:List (List AV)} {m:List α},L2 R l m->L2 S l m
 | [],[],_=>trivial
 | _::_,_::_,⟨h1,h2⟩=>⟨h _ _ h1,L2.mono h h2⟩
theorem L2.snoc {α:Type} {R:List AV->α->Prop} {x:List AV} {y:α} (h:R x y):∀ {l:List (List AV)} {m:List α},L2 R l m->L2 R (l++[x]) (m++[y])
 | [],[],_=>⟨h,trivial⟩
 | _::_,_::_,⟨h1,h2⟩=>⟨h1,L2.snoc h h2⟩
theorem L2.len {α:Type} {R:List AV->α->Prop}:∀ {l:List (List AV)} {m:List α},L2 R l m->l.length=m.length
 | [],[],_=>rfl
 | _::_,_::_,⟨_,h2⟩=>by simp [L2.len h2]
theorem L2.all {α:Type} {R:List AV->α->Prop} {p:List AV->Prop} (h:∀ x y,R x y->p x):∀ {l:List (List AV)} {m:List α},L2 R l m->∀ x∈l,p x
 | [],[],_=>fun _ hx=>nomatch hx
 | a::l,b::m,⟨h1,h2⟩=>fun x hx=>by
   rcases List.mem_cons.1 hx with rfl | hx
   ·exact h _ _ h1
   ·exact L2.all h h2 x hx
def FrS (c:Nat->Nat) (q n:Nat) (o:Tr AObj) (cs:List AV) (f:Fr):Prop:=∃ e v,cs=[.int .i64 f.node,e,v]/\Sv c q n o e 2 (f.env.map dW)/\Sv c q n o v 2 (f.vals.map dW)
def ObS (c:Nat->Nat) (q n:Nat) (o:Tr AObj) (cs:List AV) (ob:Ob):Prop:=∃ v f,cs=[.int .i64 ob.form,.int .i64 ob.n,v,f]/\Sv c (q+1) n o v 2 (ob.vals.map dW)/\∃ css,Sv c q n o f 3 css/\L2 (FrS c q n o) css ob.frs
theorem FrS.mono {cs:List AV} {f:Fr} (h:FrS c q n o cs f) (hn:n<=n') (hk:∀ id,id<n->c id=q->o'.get id=o.get id/\c' id=q'):FrS c' q' n' o' cs f:=by
 obtain ⟨e,v,h1,h2,h3⟩:=h
 exact ⟨e,v,h1,h2.mono hn hk,h3.mono hn hk⟩
theorem ObS.mono {cs:List AV} {ob:Ob} (h:ObS c q n o cs ob) (hn:n<=n') (hk:∀ id,id<n->(c id=q∨c id=q+1)->o'.get id=o.get id/\c' id=c id):ObS c' q n' o' cs ob:=by
 obtain ⟨v,f,h1,h2,css,h3,h4⟩:=h
 have k0:∀ id,id<n->c id=q->o'.get id=o.get id/\c' id=q:=fun id k1 k2=>by
  obtain ⟨e1,e2⟩:=hk id k1 (.inl k2);exact ⟨e1,e2.trans k2⟩
 exact ⟨v,f,h1,h2.mono hn fun id k1 k2=>by
  obtain ⟨e1,e2⟩:=hk id k1 (.inr k2);exact ⟨e1,e2.trans k2⟩,css,h3.mono hn k0,h4.mono fun _ _ h=>h.mono hn k0⟩
theorem FrS.len {cs:List AV} {f:Fr} (h:FrS c q n o cs f):cs.length=3:=by obtain ⟨e,v,rfl,_⟩:=h;rfl
theorem ObS.len {cs:List AV} {f:Ob} (h:ObS c q n o cs f):cs.length=4:=by obtain ⟨e,v,rfl,_⟩:=h;rfl
def LO (c:Nat->Nat) (n:Nat) (o:Tr AObj):Nat->List (List AV)->List Ob->Prop
 | _,[],[]=>True
 | k,x::l,y::m=>ObS c (11+2*k) n o x y/\LO c n o (k+1) l m
 | _,_,_=>False
theorem LO.mono (hn:n<=n') (hk:∀ id,id<n->11<=c id->o'.get id=o.get id/\c' id=c id):∀ {k:Nat} {l:List (List AV)} {m:List Ob},LO c n o k l m->LO c' n' o' k l m
 | _,[],[],_=>trivial
 | _,_::_,_::_,⟨h1,h2⟩=>⟨h1.mono hn fun id h3 h4=>hk id h3 (by omega),LO.mono hn hk h2⟩
theorem LO.snoc {x:List AV} {y:Ob}:∀ {k:Nat} {l:List (List AV)} {m:List Ob},LO c n o k l m->ObS c (11+2*(k+m.length)) n o x y->LO c n o k (l++[x]) (m++[y])
 | _,[],[],_,h=>⟨h,trivial⟩
 | k,_::_,_::m,⟨h1,h2⟩,h=>⟨h1,LO.snoc h2 (by rw [List.length_cons,show k+(m.length+1)=k+1+m.length by omega]at h;exact h)⟩
theorem LO.len:∀ {k:Nat} {l:List (List AV)} {m:List Ob},LO c n o k l m->l.length=m.length
 | _,[],[],_=>rfl
 | _,_::_,_::_,⟨_,h2⟩=>by simp [LO.len h2]
theorem LO.all:∀ {k:Nat} {l:List (List AV)} {m:List Ob},LO c n o k l m->∀ x∈l,x.length=4
 | _,[],[],_=>fun _ hx=>nomatch hx
 | _,a::l,b::m,⟨h1,h2⟩=>fun x hx=>by
   rcases List.mem_cons.1 hx with rfl | hx
   ·exact h1.len
   ·exact LO.all h2 x hx
theorem LO.get:∀ {k:Nat} {l:List (List AV)} {m:List Ob},LO c n o k l m->∀ (i:Nat) x y,l[i]?=some x->m[i]?=some y->ObS c (11+2*(k+i)) n o x y
 | _,[],[],_,i,x,y,h,_=>by simp at h
 | k,a::l,b::m,⟨h1,h2⟩,i,x,y,e1,e2=>by
   cases i with
   | zero=>simp at e1 e2;subst e1;subst e2;exact h1
   | succ i=>
     have:=LO.get h2 i x y (by simpa using e1) (by simpa using e2)
     rw [show k+(i+1)=k+1+i by omega];exact this
def InOb (c:Nat->Nat) (n:Nat) (o:Tr AObj) (v f:AV) (ob:Ob):Prop:=Sv c 5 n o v 2 (ob.vals.map dW)/\((ob.frs=[]/\f=.nils)∨
 ∃ idf g F init fr e w,ob.frs=init++[fr]/\f=.sl idf g 0 (init.length+1) (.room 3)/\o.get idf=some (bE g (F.flatten++[.int .i64 fr.node,e,w]))/\L2 (FrS c 1 n o) F init/\Sv c 2 n o e 2 (fr.env.map dW)/\Sv c 3 n o w 2 (fr.vals.map dW)/\c idf=4/\idf<n)
theorem InOb.keep {v f:AV} {ob:Ob} (h:InOb c n o v f ob) (hn:n<=n') (hk:∀ id,id<n->c id≠0->o'.get id=o.get id/\c' id=c id):InOb c' n' o' v f ob:=by
 have hk':∀ q,q≠0->∀ id,id<n->c id=q->o'.get id=o.get id/\c' id=q:=fun q hq id h1 h2=>by
  obtain ⟨e1,e2⟩:=hk id h1 (by omega)
  exact ⟨e1,by omega⟩
 refine ⟨h.1.mono hn (hk' 5 (by omega)),?_⟩
 rcases h.2 with h | ⟨idf,g,F,init,fr,e,w,h2,h3,h4,h5,h6,h7,h8,h9⟩
 ·exact .inl h
 ·obtain ⟨e1,e2⟩:=hk idf h9 (by omega)
  exact .inr ⟨idf,g,F,init,fr,e,w,h2,h3,by rw [e1];exact h4,h5.mono fun _ _ h=>h.mono hn (hk' 1 (by omega)),h6.mono hn (hk' 2 (by omega)),h7.mono hn (hk' 3 (by omega)),by omega,by omega⟩
theorem InOb.done {v f:AV} {ob:Ob} (h:InOb c n o v f ob) (hc:∀ id,1<=c id->c id<=4->c' id=q) (hc5:∀ id,c id=5->c' id=q+1):ObS c' q n o [.int .i64 ob.form,.int .i64 ob.n,v,f] ob:=by
 obtain ⟨h1,h2⟩:=h
 refine ⟨v,f,rfl,h1.mono (Nat.le_refl _) fun id _ h=>⟨rfl,hc5 id h⟩,?_⟩
 rcases h2 with ⟨h2,rfl⟩ | ⟨idf,g,F,init,fr,e,w,h2,rfl,h3,h4,h5,h6,h7,h8⟩
 ·exact ⟨[],.inl ⟨rfl,rfl⟩,by rw [h2];trivial⟩
 ·refine ⟨F++[[.int .i64 fr.node,e,w]],.inr ⟨by simp,idf,g,?_,?_,hc _ (by omega) (by omega),h8⟩,?_⟩
  ·rw [List.length_append,h4.len];rfl
  ·rw [List.flatten_append,h3];simp
  ·rw [h2]
   refine L2.snoc ⟨e,w,rfl,h5.mono (Nat.le_refl _) fun id _ h=>⟨rfl,hc id (by omega) (by omega)⟩,h6.mono (Nat.le_refl _) fun id _ h=>⟨rfl,hc id (by omega) (by omega)⟩⟩ (h4.mono fun _ _ h=>h.mono (Nat.le_refl _) fun id _ h=>⟨rfl,hc id (by omega) (by omega)⟩)
end
theorem aAi {F:List (List AV)} {L:Nat} (h:F.flatten.length=L*3) (a b d:AV):(F.flatten++[a,b,d])[L*3+1]?=some b/\(F.flatten++[a,b,d])[L*3+2]?=some d/\(∀ x,(F.flatten++[a,b,d]).set (L*3+1) x=F.flatten++[a,x,d])/\(∀ x,(F.flatten++[a,b,d]).set (L*3+2) x=F.flatten++[a,b,x])/\(F.flatten++[a,b,d]).length=L*3+3:=by
 refine ⟨?_,?_,fun x=>?_,fun x=>?_,?_⟩
 ·rw [List.getElem?_append_right (by omega),h,show L*3+1-L*3=1 by omega];rfl
 ·rw [List.getElem?_append_right (by omega),h,show L*3+2-L*3=2 by omega];rfl
 ·rw [List.set_append_right _ _ (by omega),h,show L*3+1-L*3=1 by omega];rfl
 ·rw [List.set_append_right _ _ (by omega),h,show L*3+2-L*3=2 by omega];rfl
 ·rw [List.length_append,h];rfl
theorem TH {c:Nat->Nat} {q n low m k:Nat} {o:Tr AObj} {v:AV} {cs:List (List AV)} {ts:List AV} (h:Sv c q n o v k cs) (hm:∀ id,c id=q->m<=id) (hl:ts.length=cs.length) (hk:∀ x∈cs,x.length=k) (ht:∀ x∈ts,x.cells.length=k)
 (hf:∀ (i j:Nat) x y t z,cs[i]?=some x->x[j]?=some y->ts[i]?=some t->t.cells[j]?=some z->Frz ⟨n,low,o⟩ m y z):Frz ⟨n,low,o⟩ m v (if ts=[] then .nils else .fz ts false):=by
 rcases h with ⟨rfl,rfl⟩ | ⟨h,id,g,rfl,h1,h2,h3⟩
 ·have:ts=[]:=List.length_eq_zero_iff.1 hl
  rw [if_pos this];exact .und _ eR
 ·have hne:ts≠[]:=fun e=>by
   rw [e]at hl
   exact h (List.length_eq_zero_iff.1 hl.symm)
  rw [if_neg hne]
  have hfl:=bR cs hk
  have hat:∀ (i j:Nat) x y,cs[i]?=some x->x[j]?=some y->cs.flatten[i*k+j]?=some y:=by
   clear hf hfl h1 h hl ht
   induction cs with
   | nil=>intro i j x y e;simp at e
   | cons a l ih=>
     intro i j x y e1 e2
     have ha:=hk a (List.mem_cons_self ..)
     rw [List.flatten_cons]
     cases i with
     | zero=>
       simp at e1;subst e1
       have hj:=(List.getElem?_eq_some_iff.1 e2).1
       rw [Nat.zero_mul,Nat.zero_add,List.getElem?_append_left hj];exact e2
     | succ i=>
       rw [List.getElem?_append_right (by rw [ha,Nat.succ_mul];omega),ha,show (i+1)*k+j-k=i*k+j by rw [Nat.succ_mul];omega]
       exact ih (fun x hx=>hk x (List.mem_cons_of_mem _ hx)) i j x y (by simpa using e1) e2
  refine .sl id g 0 cs.length (.room k) cs.flatten.length k (Tr.leaf.lay 0 cs.flatten) ts (fun i j=>cs.flatten.getD (i*k+j) .top) (hm id h2) (by rw [Sto.get_mk h3];exact h1) hl (by omega) ht ?_ ?_
  ·intro i j x y e1 e2
   have hi:i<cs.length:=by rw [<-hl];exact (List.getElem?_eq_some_iff.1 e1).1
   have hj:j<k:=by rw [<-ht x (List.mem_of_getElem? e1)];exact (List.getElem?_eq_some_iff.1 e2).1
   have hxi:j<cs[i].length:=by rw [hk _ (List.getElem_mem hi)];exact hj
   have:=hat i j cs[i] cs[i][j] (List.getElem?_eq_getElem hi) (List.getElem?_eq_getElem hxi)
   rw [Tr.get_row,Nat.zero_add,List.getD_eq_getElem?_getD,this];rfl
  ·intro i j x y e1 e2
   have hi:i<cs.length:=by rw [<-hl];exact (List.getElem?_eq_some_iff.1 e1).1
   have hj:j<k:=by rw [<-ht x (List.mem_of_getElem? e1)];exact (List.getElem?_eq_some_iff.1 e2).1
   have hxi:j<cs[i].length:=by rw [hk _ (List.getElem_mem hi)];exact hj
   have:=hat i j cs[i] cs[i][j] (List.getElem?_eq_getElem hi) (List.getElem?_eq_getElem hxi)
   rw [List.getD_eq_getElem?_getD,this]
   exact hf i j _ _ x y (List.getElem?_eq_getElem hi) (List.getElem?_eq_getElem hxi) e1 e2
end
end Go.Proofs.Ytajngkkihadgfaa
/-
 The law's worlds by numbers: the function that makes them.
-/
namespace Go.Proofs.Ytajngkkihadgfaa
open Go.Abs Go Go.Abs.TryF
noncomputable section
set_option maxRecDepth 10000
theorem aAj {P:Program} {L:List kL} (hL:∀ x∈L,eV P x) (H:fK) {f:FuncId} {fn:Func} {c:Code} {N:Nat} {rs:List ResultVar} {args:List AV} {s:Sto} {C:Sto->AV->Prop} (hok:okFn P f=true) (hf:P.funcs[f]?=some fn) (hn:fn.ntmps=N) (hr:fn.results=rs.toArray) (hb:fn.body=some c)
 (ha:Nat.ble args.length N=true)
 (h:Wk P (orcL L) H c ⟨N,none,f,Tr.leaf.lay 0 args,[],⟨s.n,s.n,s.o⟩,.no⟩ (sR P rs C fun _ _=>False)):∃ S r,C S r/\∀ v' so,eQ s S r v' so->dZ P f args s (.ret v' so):=by
 obtain ⟨n,ex,e,hc,hQ⟩:=h.sound
 have key:(e.ds=[]/\e.r=.no/\vX (aW P e rs) C e.s)->(ex=.normal∨ex=.ret)->∃ S r,C S r/\∀ v' so,eQ s S r v' so->dZ P f args s (.ret v' so):=by
  rintro ⟨h1,h2,vs,h3,h4⟩ hex
  refine ⟨e.s,oA vs,h4,fun v' so hcl=>?_⟩
  refine tQ (tU hL) hok hf hb (C:=fun S r=>S=e.s/\r=oA vs) (D:=fun _ _=>False) (fun S r hS=>⟨v',so,rfl,by rw [hS.1,hS.2];exact hcl⟩) (fun _ _ h=>h.elim) ?_
  rw [mF hn ha,show fn.results.toList=rs by rw [hr]]
  refine ⟨n,ex,e,hc,?_⟩
  rcases hex with rfl | rfl<;>exact ⟨h1,h2,vs,h3,rfl,rfl⟩
 cases ex with
 | normal=>exact key hQ (.inl rfl)
 | ret=>exact key hQ (.inr rfl)
 | panic v=>exact hQ.2.2.elim
 | _=>exact hQ.elim
def qR (x:Int):List AV:=[.int .i64 x]
def HX (n0:Nat) (o0:Tr AObj) (w:Wd) (S:Sto) (r:AV):Prop:=∃ n low o c,S=⟨n,low,o⟩/\n0<=n/\n0<=low/\(∀ id,id<n0->o.get id=o0.get id)/\(∀ id,c id≠0->n0<=id)/\∃ vO vT vU vI css,
 r=.agg [vO,vT,vU,vI,.int .i64 w.used]/\Sv c 6 n o vO 4 css/\LO c n o 0 css w.objs/\Sv c 8 n o vT 1 (w.tasks.map qR)/\Sv c 9 n o vU 2 (w.outs.map dW)/\Sv c 10 n o vI 1 (w.ins.map qR)
def OutS (n0:Nat) (o0:Tr AObj) (os ts us:AV) (used:Nat) (n low:Nat) (o:Tr AObj) (c:Nat->Nat) (vO vT vU vI vN:AV) (css:List (List AV)) (acc:List Ob):Prop:=
 n0+2<n/\n0<=low/\(∀ id,id<n0->o.get id=o0.get id)/\(∀ id,c id≠0->n0+2<id)/\o.get n0=some (bE 0 [os,ts,us,.int .u16 (used:Nat)])/\o.get (n0+1)=some (bE 0 [.nils,.nils,.nils,.nils,.int .i64 0])/\
 o.get (n0+2)=some (bE 0 [vO,vT,vU,vI,vN])/\Sv c 6 n o vO 4 css/\LO c n o 0 css acc
theorem OutS.step {n0 used n low n1 low1:Nat} {o0 o o1:Tr AObj} {os ts us vO vT vU vI vN vT' vU' vI' vN':AV} {c c1:Nat->Nat} {css:List (List AV)} {acc:List Ob} (h:OutS n0 o0 os ts us used n low o c vO vT vU vI vN css acc) (hn:n<=n1) (hl:n0<=low1)
 (hk:∀ id,id<n->id≠n0+2->(c id=0∨c id=6∨11<=c id)->o1.get id=o.get id/\c1 id=c id) (hc:c1 (n0+2)=0) (h2:o1.get (n0+2)=some (bE 0 [vO,vT',vU',vI',vN'])):OutS n0 o0 os ts us used n1 low1 o1 c1 vO vT' vU' vI' vN' css acc/\c (n0+2)=0:=by
 obtain ⟨q1,q2,q3,q4,q5,q6,q7,q8,q9⟩:=h
 have hz:∀ id,id<=n0+2->c id=0:=fun id hid=>by
  by_cases h:c id=0
  ·exact h
  ·have:=q4 id h;omega
 refine ⟨⟨by omega,hl,fun id hid=>(hk id (by omega) (by omega) (.inl (hz id (by omega)))).1.trans (q3 id hid),fun id hid=>?_,(hk _ (by omega) (by omega) (.inl (hz _ (by omega)))).1.trans q5,(hk _ (by omega) (by omega) (.inl (hz _ (by omega)))).1.trans q6,h2,q8.mono hn fun id k1 k2=>?_,q9.mono hn fun id k1 k2=>?_⟩,hz _ (by omega)⟩
 ·by_cases k1:id<n
  ·by_cases k3:id=n0+2
   ·subst k3;exact absurd hc hid
   ·by_cases k2:c id=0
    ·exact absurd ((hk id k1 k3 (by omega)).2.trans k2) hid
    ·exact q4 id k2
  ·omega
 ·obtain ⟨e1,e2⟩:=hk id k1 (by have:=q4 id (by omega);omega) (by omega)
  exact ⟨e1,e2.trans k2⟩
 ·exact hk id k1 (by have:=q4 id (by omega);omega) (by omega)
abbrev LMa:List kL:=[ent 38 gnV,ent 39 KY]
def hMa:fK:=fun r=>(bif Nat.beq r 18||Nat.beq r 21 then [8] else bif Nat.beq r 29 then [] else [4,7],[])
theorem aMx:hMa 11=([4,7],[]):=rfl
theorem aMy:hMa 18=([8],[]):=rfl
theorem aMz:hMa 21=([8],[]):=rfl
theorem aNa:hMa 29=([],[]):=rfl
theorem aNb:hMa 35=([4,7],[]):=rfl
theorem aNc:hMa 36=([4,7],[]):=rfl
theorem aNd:rV Try.prog 41=some 1:=by kernel_rfl
theorem aPg:rV Try.prog 46=some 1:=by kernel_rfl
theorem aNe:rV Try.prog 33=some 1:=by kernel_rfl
theorem aNf:rV Try.prog 42=some 2:=by kernel_rfl
set_option maxHeartbeats 4000000 in
theorem LA (n0 low0:Nat) (o0:Tr AObj) (a:AV) (sc:Sc) (h:IsSc a sc):∃ S r,HX n0 o0 (eD sc) S r/\∀ v' so,eQ ⟨n0,low0,o0⟩ S r v' so->dZ Try.prog 17 [a] ⟨n0,low0,o0⟩ (.ret v' so):=by
 obtain ⟨os,ts,us,xs,rfl,hos,hxl,hxs,hts,htb,hus,hub,husd⟩:=h
 have co:=hos.cell
 have ct:=hts.cell
 have cu:=hus.cell
 have hxl2:=hos.2
 refine aAj (L:=LMa) (elist_cons lnumber_ok.ent (elist_cons lvalue_ok.ent bC)) hMa (by kernel_rfl) Try.func17 Try.ntmps17 Try.results17 rfl rfl ?_
 obtain ⟨N,hN⟩:∃ N,N=min sc.objs.length 40:=⟨_,rfl⟩
 obtain ⟨os',hos',hsl⟩:=TG hos aNd (fun x hx=>by
  obtain ⟨i,hi,rfl⟩:=List.mem_iff_getElem.1 hx
  have:=(hxs i (by omega)).1.cell
  rw [aT hi]at this
  cases hxi:xs[i]<;>rw [hxi]at this<;>first | rfl | cases this) (m:=N) (by omega)
 have hmin:(if (40:Int)<((xs.length:Nat):Int) then (40:Int) else ((xs.length:Nat):Int))=((N:Nat):Int):=by split<;>omega
 have hsl:=fun {q}=>hsl (q:=q)
 have hlen':(xs.take N).length=N:=by rw [List.length_take];omega
 simp +contextual +decide (maxSteps:=1000000) only [↓ wP,wQ,tf,Nat.reduceAdd,ne_eq,co,ct,cu,bF,hos.len,IL,hmin,hsl,hos'.len,hlen']
 refine cB (fun i e=>∃ t n low o c vO css acc,e=⟨201,none,17,t,[],⟨n,low,o⟩,.no⟩/\t.val 1=.ptr n0 0 0/\t.val 2=.ptr (n0+1) 0 0/\t.val 3=.ptr (n0+2) 0 0/\t.val 4=.int .i64 (N:Nat)/\t.val 23=os'/\t.val 24=.int .i64 (N:Nat)/\t.val 25=.int .i64 (i:Nat)/\i<=N/\OutS n0 o0 os ts us sc.used n low o c vO .nils .nils .nils (.int .i64 0) css acc/\acc=(sc.objs.take i).map (uT N)) (fun i=>N-i) 0
  ⟨_,n0+1+1+1,_,_,fun _=>0,.nils,[],[],rfl,by simp +decide only [↓ aB,aD,aC],by simp +decide only [↓ aB,aD,aC],by simp +decide only [↓ aB,aD,aC],by simp +decide only [↓ aB,aD,aC],by simp +decide only [↓ aB,aD,aC],by simp +decide only [↓ aB,aD,aC],by simp +decide only [↓ aB,aD,aC];rfl,Nat.zero_le _,⟨by omega,by omega,fun id hid=>by rw [Tr.get_set_ne _ _ (by omega),Tr.get_set_ne _ _ (by omega),Tr.get_set_ne _ _ (by omega)],fun id h=>absurd rfl h,by simp +decide only [↓ aB,aS,aC,ne_eq,bF],by simp +decide only [↓ aB,aS,aC,ne_eq,bF],by simp +decide only [↓ aB,aS,aC,ne_eq,bF],.inl ⟨rfl,rfl⟩,trivial⟩,rfl⟩ ?_
 rintro i _ ⟨t,n,low,o,c,vO,css,acc,rfl,t1,t2,t3,t4,t23,t24,t25,hi,⟨hn,hlow,hoth,hcn,hg0,hg1,hg2,hvO,hcss⟩,hacc⟩
 have f0:=bK (show n0<n by omega)
 have f1:=bK (show n0+1<n by omega)
 have f2:=bK (show n0+2<n by omega)
 by_cases hlt:i<N
 ·have d1:((i:Int)<(N:Nat))=True:=eq_true (by omega)
  have d5:=bH (i:=i) (by omega)
  obtain ⟨hxi,hxb⟩:=hxs i (by omega)
  have x1:∀ {q:IntKind} {d:Option AV},eU (some 1) (xs.take N) (.int q (i:Nat)) d=some (.pf (xs.getD i .top)):=fun {q d}=>by
   have hi':i<xs.length:=by omega
   refine (iL (by omega) (by omega) ?_ ?_)
   ·rw [Int.toNat_natCast,List.getElem?_take,if_pos hlt,List.getElem?_eq_getElem hi',aT hi']
   ·have:=hxi.cell
    revert this
    cases xs.getD i .top<;>intro this<;>first | rfl | cases this
  have hxc:=hxi.cell
  obtain ⟨l,hl⟩:∃ l,l=sc.objs.getD i []:=⟨_,rfl⟩
  rw [<-hl]at hxi hxb
  generalize hx:xs.getD i .top=x at *
  obtain ⟨M,hM⟩:∃ M,M=min l.length 20:=⟨_,rfl⟩
  obtain ⟨x',hx',hxsl⟩:=TG hxi aPg (fun x hx=>by obtain ⟨y,_,rfl⟩:=List.mem_map.1 hx;rfl) (m:=M) (by rw [List.length_map];omega)
  have hxsl:=fun {q}=>hxsl (q:=q)
  have hxmin:(if (20:Int)<((l.length:Nat):Int) then (20:Int) else ((l.length:Nat):Int))=((M:Nat):Int):=by split<;>omega
  have hxlen:((l.map mS).take M).length=M:=by rw [List.length_take,List.length_map];omega
  have q1:Int.tmod ((M:Nat):Int) 6=((M%6:Nat):Int):=dB
  have q2:IntKind.i64.wrap (1+((M%6:Nat):Int))=((1+M%6:Nat):Int):=by rw [IntWalk.i64_in _ (by omega)];omega
  simp +contextual +decide (maxSteps:=1000000) only [↓ wP,wQ,tf,Nat.reduceAdd,ne_eq,t1,t2,t3,t4,t23,t24,t25,d1,hos'.idx,x1,hxc,hxi.len,List.length_map,IL,hxmin,hxsl,hx'.len,hxlen,q1,q2,bU,bF]
  refine cB (fun j e=>∃ t n' low o c v f ob,e=⟨201,none,17,t,[],⟨n',low,o⟩,.no⟩/\t.val 1=.ptr n0 0 0/\t.val 2=.ptr (n0+1) 0 0/\t.val 3=.ptr (n0+2) 0 0/\t.val 4=.int .i64 (N:Nat)/\t.val 23=os'/\t.val 24=.int .i64 (N:Nat)/\t.val 25=.int .i64 (i:Nat)/\t.val 7=.ptr n 0 0/\t.val 39=x'/\t.val 40=.int .i64 (M:Nat)/\t.val 41=.int .i64 (j:Nat)/\j<=M/\n<n'/\c n=0/\
   o.get n=some (bE 0 [.int .i64 ob.form,.int .i64 ob.n,v,f])/\InOb c n' o v f ob/\HW N j ((l.take M).drop j) ob=HW N 0 (l.take M) ⟨((1+M%6:Nat):Int),0,[],[]⟩/\ob.vals.length<=j/\ob.frs.length<=j/\(∀ fr∈ob.frs,fr.env.length<=j/\fr.vals.length<=j)/\OutS n0 o0 os ts us sc.used n' low o c vO .nils .nils .nils (.int .i64 0) css acc) (fun j=>M-j) 0
   ⟨_,n+1,_,_,fun id=>if id<n then c id else 0,.nils,.nils,⟨((1+M%6:Nat):Int),0,[],[]⟩,rfl,by simp +decide only [↓ aB,aD,aC,t1],by simp +decide only [↓ aB,aD,aC,t2],by simp +decide only [↓ aB,aD,aC,t3],by simp +decide only [↓ aB,aD,aC,t4],by simp +decide only [↓ aB,aD,aC,t23],by simp +decide only [↓ aB,aD,aC,t24],by simp +decide only [↓ aB,aD,aC,t25],by simp +decide only [↓ aB,aD,aC],by simp +decide only [↓ aB,aD,aC],by simp +decide only [↓ aB,aD,aC],by simp +decide only [↓ aB,aD,aC];rfl,Nat.zero_le _,by omega,if_neg (by omega),by simp +decide only [↓ aB,aS,aC,ne_eq,bF],⟨.inl ⟨rfl,rfl⟩,.inl ⟨rfl,rfl⟩⟩,rfl,Nat.zero_le _,Nat.zero_le _,fun _ h=>(nomatch h),⟨by omega,(by repeat' first | exact Nat.le_refl _ | exact hlow | apply le_min | omega),fun id hid=>by (repeat rw [Tr.get_set_ne _ _ (by omega)]);exact hoth id hid,fun id h=>?_,by simp +decide only [↓ aB,aS,aC,ne_eq,f0,hg0],by simp +decide only [↓ aB,aS,aC,ne_eq,f1,hg1],by simp +decide only [↓ aB,aS,aC,ne_eq,f2,hg2],hvO.mono (by omega) fun id h1 h2=>⟨by repeat rw [Tr.get_set_ne _ _ (by omega)],by simp only [h1,if_true,h2]⟩,hcss.mono (by omega) fun id h1 h2=>⟨by repeat rw [Tr.get_set_ne _ _ (by omega)],by simp only [h1,if_true]⟩⟩⟩ ?_
  ·have h:(if id<n then c id else 0)≠0:=h
   by_cases hid:id<n
   ·rw [if_pos hid]at h;exact hcn id h
   ·omega
  clear t1 t2 t3 t4 t23 t24 t25 f0 f1 f2 hg0 hg1 hg2 hvO hcss hoth hcn hlow
  rintro j _ ⟨t,n',low,o,c,v,f,ob,rfl,t1,t2,t3,t4,t23,t24,t25,t7,t39,t40,t41,hj,hn',hcb,hgb,hob,hgo,hb1,hb2,hb3,⟨hn2,hlow,hoth,hcn,hg0,hg1,hg2,hvO,hcss⟩⟩
  have f0:=bK (show n0<n' by omega)
  have f1:=bK (show n0+1<n' by omega)
  have f2:=bK (show n0+2<n' by omega)
  have f3:=bK hn'
  have hne:n≠n0/\n0≠n/\n≠n0+1/\n0+1≠n/\n≠n0+2/\n0+2≠n:=⟨by omega,by omega,by omega,by omega,by omega,by omega⟩
  by_cases hjt:j<M
  ·have g1:((j:Int)<(M:Nat))=True:=eq_true (by omega)
   have g5:=bH (i:=j) (by omega)
   obtain ⟨y,hy⟩:∃ y,y=(l.take M).getD j 0:=⟨_,rfl⟩
   have hjl:j<(l.take M).length:=by rw [List.length_take];omega
   have hyb:y<65536:=by rw [hy,aT hjl];exact hxb _ (List.mem_of_mem_take (List.getElem_mem _))
   have y1:∀ {q:IntKind} {d:Option AV},eU (some 1) ((l.map mS).take M) (.int q (j:Nat)) d=some (.pf (.int .u16 (y:Nat))):=fun {q d}=>by
    refine (iL (by omega) (by omega) ?_ rfl)
    rw [Int.toNat_natCast,<-List.map_take,List.getElem?_map,List.getElem?_eq_getElem hjl,hy,aT hjl];rfl
   have hdrop:(l.take M).drop j=y::(l.take M).drop (j+1):=by rw [hy,aT hjl];exact List.drop_eq_getElem_cons hjl
   rw [hdrop]at hgo
   have hgo':HW N (j+1) ((l.take M).drop (j+1)) (lD N j y ob)=HW N 0 (l.take M) ⟨((1+M%6:Nat):Int),0,[],[]⟩:=hgo
   have k1:(((j:Nat):Int)=0)=(j=0):=propext (by omega)
   have k2:Int.tmod ((j:Nat):Int) 5=((j%5:Nat):Int):=dB
   have k3:(((j%5:Nat):Int)=4)=(j%5=4):=propext (by omega)
   have k4:=cF (n:=y) (by omega)
   have k5:Int.tmod ((y:Nat):Int) 2=((y%2:Nat):Int):=dB
   have k6:(((y%2:Nat):Int)=0)=(y%2=0):=propext (by omega)
   have k7:IntKind.u16.wrap (Int.tdiv (y:Int) 2)=((y/2:Nat):Int):=by rw [show Int.tdiv (y:Int) 2=((y/2:Nat):Int) from iY];exact HR (by omega)
   have w1:=HS hyb
   have w2:=KZ (n:=y) (m:=N) hyb (by omega) (by omega)
   have w3:=KZ (n:=y/2) (m:=N) (by omega) (by omega) (by omega)
   have hnb:∀ id,c id≠0->id≠n:=fun id h e=>h (by rw [e];exact hcb)
   have hvc:=hob.1.cell
   have hfc:f.isCell=true:=by rcases hob.2 with ⟨_,rfl⟩ | ⟨_,_,_,_,_,_,_,_,rfl,_⟩<;>rfl
   have hz:∀ id,id<=n0+2->c id=0:=fun id hid=>by
    by_cases h:c id=0
    ·exact h
    ·have:=hcn id h;omega
   have stay:∀ (n1 low1:Nat) (o1:Tr AObj) (c1:Nat->Nat),n'<=n1->n0<=low1->(∀ id,id<n'->id≠n->(c id=0∨c id=6∨11<=c id)->o1.get id=o.get id)->(∀ id,id<n'->(c id=0∨c id=6∨11<=c id)->c1 id=c id)->OutS n0 o0 os ts us sc.used n1 low1 o1 c1 vO .nils .nils .nils (.int .i64 0) css acc:=by
    intro n1 low1 o1 c1 h1 h2 h3 h4
    refine ⟨by omega,h2,fun id hid=>(h3 id (by omega) (by omega) (.inl (hz id (by omega)))).trans (hoth id hid),fun id hid=>?_,(h3 _ (by omega) (by omega) (.inl (hz _ (by omega)))).trans hg0,(h3 _ (by omega) (by omega) (.inl (hz _ (by omega)))).trans hg1,(h3 _ (by omega) (by omega) (.inl (hz _ (by omega)))).trans hg2,hvO.mono h1 fun id k1 k2=>⟨h3 id k1 (hnb id (by omega)) (by omega),(h4 id k1 (by omega)).trans k2⟩,hcss.mono h1 fun id k1 k2=>⟨h3 id k1 (hnb id (by omega)) (by omega),h4 id k1 (by omega)⟩⟩
    by_cases k1:id<n'
    ·by_cases k2:c id=0
     ·exact absurd ((h4 id k1 (by omega)).trans k2) hid
     ·exact hcn id k2
    ·omega
   have far:∀ {id x:Nat},c id≠c x->id≠x:=fun h e=>h (by rw [e])
   by_cases c0:j=0
   ·simp +contextual +decide (maxSteps:=1000000) only [↓ wP,wQ,tf,Nat.reduceAdd,ne_eq,t1,t2,t3,t4,t7,t23,t24,t25,t39,t40,t41,g1,g5,hx'.idx,y1,bU,k1,eq_true c0,w1,hgb,f3,hvc,hfc]
    refine ⟨j+1,by show _-_<_-_;omega,_,n',_,_,c,v,f,⟨ob.form,pF y,ob.vals,ob.frs⟩,rfl,by simp +decide only [↓ aB,aD,aC,t1],by simp +decide only [↓ aB,aD,aC,t2],by simp +decide only [↓ aB,aD,aC,t3],by simp +decide only [↓ aB,aD,aC,t4],by simp +decide only [↓ aB,aD,aC,t23],by simp +decide only [↓ aB,aD,aC,t24],by simp +decide only [↓ aB,aD,aC,t25],by simp +decide only [↓ aB,aD,aC,t7],by simp +decide only [↓ aB,aD,aC,t39],by simp +decide only [↓ aB,aD,aC,t40],by simp +decide only [↓ aB,aD,aC],hjt,hn',hcb,by simp +decide only [↓ aB,aS,aC,ne_eq],hob.keep (Nat.le_refl _) fun id h1 h2=>⟨by rw [Tr.get_set_ne _ _ (hnb id h2)],rfl⟩,by rw [<-hgo',lD,if_pos c0],by show ob.vals.length<=_;omega,by show ob.frs.length<=_;omega,fun fr hfr=>by have:=hb3 fr hfr;omega,
     stay _ _ _ _ (Nat.le_refl _) (by repeat' first | exact Nat.le_refl _ | exact hlow | apply le_min | omega) (fun id h1 h2 _=>by rw [Tr.get_set_ne _ _ h2]) (fun _ _ _=>rfl)⟩
   by_cases c1:j%5=4
   ·have hstep:lD N j y ob=⟨ob.form,ob.n,ob.vals,ob.frs++[⟨((y:Nat):Int),[],[]⟩]⟩:=by rw [lD,if_neg c0,if_pos c1]
    rw [hstep]at hgo'
    rcases hob with ⟨hv,⟨hfr,rfl⟩ | ⟨idf,g,F,init,fr,e,w,hfr,rfl,hgf,hF,he,hw,hcf,hidf⟩⟩
    ·simp +contextual +decide (maxSteps:=1000000) only [↓ wP,wQ,tf,Nat.reduceAdd,ne_eq,t1,t2,t3,t4,t7,t23,t24,t25,t39,t40,t41,g1,g5,hx'.idx,y1,bU,k1,c0,k2,k3,c1,k4,hgb,f3,bF,hvc,Nat.reduceMul,Nat.mul_one,Nat.zero_mul,Nat.zero_add]
     refine ⟨j+1,by show _-_<_-_;omega,_,n'+1+1,_,_,fun id=>if id<n' then c id else 4,v,.sl (n'+1) 0 0 1 (.room 3),⟨ob.form,ob.n,ob.vals,ob.frs++[⟨((y:Nat):Int),[],[]⟩]⟩,rfl,by simp +decide only [↓ aB,aD,aC,t1],by simp +decide only [↓ aB,aD,aC,t2],by simp +decide only [↓ aB,aD,aC,t3],by simp +decide only [↓ aB,aD,aC,t4],by simp +decide only [↓ aB,aD,aC,t23],by simp +decide only [↓ aB,aD,aC,t24],by simp +decide only [↓ aB,aD,aC,t25],by simp +decide only [↓ aB,aD,aC,t7],by simp +decide only [↓ aB,aD,aC,t39],by simp +decide only [↓ aB,aD,aC,t40],by simp +decide only [↓ aB,aD,aC],hjt,by omega,(if_pos hn').trans hcb,by simp +decide only [↓ aB,aS,aC,ne_eq],⟨hv.mono (by omega) fun id h1 h2=>⟨by (have:=hnb id (by omega));repeat rw [Tr.get_set_ne _ _ (by omega)],(if_pos h1).trans h2⟩,.inr ⟨n'+1,0,[],[],⟨((y:Nat):Int),[],[]⟩,.nils,.nils,by rw [hfr],rfl,by (rw [Tr.get_set_ne _ _ (by omega),Tr.get_set_same]);rfl,trivial,.inl ⟨rfl,rfl⟩,.inl ⟨rfl,rfl⟩,if_neg (by omega),by omega⟩⟩,hgo',by show ob.vals.length<=_;omega,by rw [List.length_append];show _+1<=_;omega,fun fr hfr=>?_,
      stay _ _ _ _ (by omega) (by repeat' first | exact Nat.le_refl _ | exact hlow | apply le_min | omega) (fun id h1 h2 _=>by repeat rw [Tr.get_set_ne _ _ (by omega)]) (fun id h1 _=>if_pos h1)⟩
     rcases List.mem_append.1 hfr with h | h
     ·have:=hb3 fr h;omega
     ·simp at h;subst h;exact ⟨Nat.zero_le _,Nat.zero_le _⟩
    ·have f4:=bK hidf
     have f5:idf≠n:=hnb _ (by omega)
     have f6:=f5.symm
     have f7:=hcn idf (by omega)
     have hFl:F.flatten.length=init.length*3:=by rw [bR _ (hF.all fun _ _ h=>h.len),hF.len]
     have hfl:(F.flatten++[.int .i64 fr.node,e,w]).length=(init.length+1)*3:=by rw [List.length_append,hFl,Nat.succ_mul];rfl
     have hsmall:(2*(init.length+1+1)+1024)*56<=281474976710656/\init.length+1+1<4611686018427387904:=by
      rw [hfr,List.length_append]at hb2;simp at hb2;omega
     simp +contextual +decide (maxSteps:=1000000) only [↓ wP,wQ,tf,Nat.reduceAdd,ne_eq,t1,t2,t3,t4,t7,t23,t24,t25,t39,t40,t41,g1,g5,hx'.idx,y1,bU,k1,c0,k2,k3,c1,k4,hgb,f3,f4,f5,f6,hgf,hfl,hsmall,bF,hvc,Nat.reduceMul,Nat.mul_one,Nat.zero_mul,Nat.zero_add]
     have hc1:∀ q,q≠0->q≠4->q≠2->q≠3->∀ id,id<n'->c id=q->(if id<n' then (if c id=2∨c id=3 then 1 else c id) else 0)=q:=fun q h1 h2 h3 h4 id k1 k2=>by rw [if_pos k1,if_neg (by omega)];exact k2
     refine ⟨j+1,by show _-_<_-_;omega,_,n'+1,_,_,fun id=>if id<n' then (if c id=2∨c id=3 then 1 else c id) else 0,v,.sl idf (g+1) 0 (init.length+1+1) (.room 3),⟨ob.form,ob.n,ob.vals,ob.frs++[⟨((y:Nat):Int),[],[]⟩]⟩,rfl,by simp +decide only [↓ aB,aD,aC,t1],by simp +decide only [↓ aB,aD,aC,t2],by simp +decide only [↓ aB,aD,aC,t3],by simp +decide only [↓ aB,aD,aC,t4],by simp +decide only [↓ aB,aD,aC,t23],by simp +decide only [↓ aB,aD,aC,t24],by simp +decide only [↓ aB,aD,aC,t25],by simp +decide only [↓ aB,aD,aC,t7],by simp +decide only [↓ aB,aD,aC,t39],by simp +decide only [↓ aB,aD,aC,t40],by simp +decide only [↓ aB,aD,aC],hjt,by omega,(if_pos hn').trans ((if_neg (by omega)).trans hcb),by simp +decide only [↓ aB,aS,aC,ne_eq],⟨hv.mono (by omega) fun id h1 h2=>⟨by (have:=hnb id (by omega));(have:=far (id:=id) (x:=idf) (by omega));repeat rw [Tr.get_set_ne _ _ (by omega)],hc1 5 (by omega) (by omega) (by omega) (by omega) id h1 h2⟩,.inr ⟨idf,g+1,F++[[.int .i64 fr.node,e,w]],init++[fr],⟨((y:Nat):Int),[],[]⟩,.nils,.nils,by rw [hfr],by rw [List.length_append];rfl,?_,?_,.inl ⟨rfl,rfl⟩,.inl ⟨rfl,rfl⟩,(if_pos hidf).trans ((if_neg (by omega)).trans hcf),by omega⟩⟩,hgo',by show ob.vals.length<=_;omega,by rw [List.length_append];show _+1<=_;omega,fun fr' hfr'=>?_,
      stay _ _ _ _ (by omega) (by repeat' first | exact Nat.le_refl _ | exact hlow | apply le_min | omega) (fun id h1 h2 h3=>by (have:=far (id:=id) (x:=idf) (by omega));repeat rw [Tr.get_set_ne _ _ (by omega)]) (fun id h1 h2=>(if_pos h1).trans (if_neg (by omega)))⟩
     ·rw [Tr.get_set_ne _ _ f5,Tr.get_set_same,List.flatten_append];simp
     ·have hk:∀ id,id<n'->(c id=1∨c id=2∨c id=3)->∀ x:AObj,∀ y':AObj,∀ z:AObj,(((o.set n' x).set idf y').set n z).get id=o.get id:=fun id h1 h2 x y' z=>by
       (have:=hnb id (by omega));(have:=far (id:=id) (x:=idf) (by omega));repeat rw [Tr.get_set_ne _ _ (by omega)]
      refine L2.snoc ⟨e,w,rfl,he.mono (by omega) fun id h1 h2=>⟨hk id h1 (by omega) _ _ _,(if_pos h1).trans (if_pos (by omega))⟩,hw.mono (by omega) fun id h1 h2=>⟨hk id h1 (by omega) _ _ _,(if_pos h1).trans (if_pos (by omega))⟩⟩ (hF.mono fun _ _ h=>h.mono (by omega) fun id h1 h2=>⟨hk id h1 (by omega) _ _ _,hc1 1 (by omega) (by omega) (by omega) (by omega) id h1 h2⟩)
     ·rcases List.mem_append.1 hfr' with h | h
      ·have:=hb3 fr' h;omega
      ·simp at h;subst h;exact ⟨Nat.zero_le _,Nat.zero_le _⟩
   have c1':=c1
   by_cases c2:ob.frs=[]
   ·have hstep:lD N j y ob=⟨ob.form,ob.n,ob.vals++[gY y N],ob.frs⟩:=by rw [lD,if_neg c0,if_neg c1,if_pos c2]
    rw [hstep]at hgo'
    rcases hob with ⟨hv,⟨hfr,rfl⟩ | ⟨idf,g,F,init,fr,e,w,hfr,rfl,hgf,hF,he,hw,hcf,hidf⟩⟩
    rotate_left
    ·rw [c2]at hfr;simp at hfr
    have hsmall:(2*(ob.vals.length+1)+1024)*16<=281474976710656/\ob.vals.length+1<4611686018427387904:=by omega
    rcases hv with ⟨hv,rfl⟩ | ⟨hv,idv,g,rfl,hgv,hcv,hidv⟩
    ·simp +contextual +decide (maxSteps:=1000000) only [↓ wP,wQ,tf,Nat.reduceAdd,ne_eq,t1,t2,t3,t4,t7,t23,t24,t25,t39,t40,t41,g1,g5,hx'.idx,y1,bU,k1,c0,k2,k3,c1,k5,w2,hgb,f3,bF,aMx,hsmall,Nat.reduceMul,Nat.mul_one,Nat.zero_mul,Nat.zero_add]
     refine ⟨j+1,by show _-_<_-_;omega,_,n'+1+1,_,_,fun id=>if id<n' then c id else 5,.sl (n'+1) 0 0 1 (.room 2),.nils,⟨ob.form,ob.n,ob.vals++[gY y N],ob.frs⟩,rfl,by simp +decide only [↓ aB,aD,aC,t1],by simp +decide only [↓ aB,aD,aC,t2],by simp +decide only [↓ aB,aD,aC,t3],by simp +decide only [↓ aB,aD,aC,t4],by simp +decide only [↓ aB,aD,aC,t23],by simp +decide only [↓ aB,aD,aC,t24],by simp +decide only [↓ aB,aD,aC,t25],by simp +decide only [↓ aB,aD,aC,t7],by simp +decide only [↓ aB,aD,aC,t39],by simp +decide only [↓ aB,aD,aC,t40],by simp +decide only [↓ aB,aD,aC],hjt,by omega,(if_pos hn').trans hcb,by simp +decide only [↓ aB,aS,aC,ne_eq],⟨.inr ⟨by simp,n'+1,0,?_,?_,if_neg (by omega),by omega⟩,.inl ⟨hfr,rfl⟩⟩,hgo',by rw [List.length_append];show _+1<=_;omega,by show ob.frs.length<=_;omega,fun fr hfr=>by have:=hb3 fr hfr;omega,
      stay _ _ _ _ (by omega) (by repeat' first | exact Nat.le_refl _ | exact hlow | apply le_min | omega) (fun id h1 h2 _=>by repeat rw [Tr.get_set_ne _ _ (by omega)]) (fun id h1 _=>if_pos h1)⟩
     ·rw [List.length_map,List.length_append,show ob.vals=[] from List.map_eq_nil_iff.1 hv];rfl
     ·rw [Tr.get_set_ne _ _ (by omega),Tr.get_set_same,show ob.vals=[] from List.map_eq_nil_iff.1 hv];rfl
    ·have f4:=bK hidv
     have f5:idv≠n:=hnb _ (by omega)
     have f7:=hcn idv (by omega)
     have f6:=f5.symm
     have hfl:(ob.vals.map dW).flatten.length=ob.vals.length*2:=by rw [bR (k:=2) _ (fun x hx=>by obtain ⟨y,_,rfl⟩:=List.mem_map.1 hx;rfl),List.length_map]
     rw [List.length_map]at *
     simp +contextual +decide (maxSteps:=1000000) only [↓ wP,wQ,tf,Nat.reduceAdd,ne_eq,t1,t2,t3,t4,t7,t23,t24,t25,t39,t40,t41,g1,g5,hx'.idx,y1,bU,k1,c0,k2,k3,c1,k5,w2,hgb,f3,f4,f5,f6,hgv,hfl,bF,aMx,hsmall,Nat.reduceMul,Nat.mul_one,Nat.zero_mul,Nat.zero_add]
     refine ⟨j+1,by show _-_<_-_;omega,_,n'+1,_,_,fun id=>if id<n' then c id else 0,.sl idv (g+1) 0 (ob.vals.length+1) (.room 2),.nils,⟨ob.form,ob.n,ob.vals++[gY y N],ob.frs⟩,rfl,by simp +decide only [↓ aB,aD,aC,t1],by simp +decide only [↓ aB,aD,aC,t2],by simp +decide only [↓ aB,aD,aC,t3],by simp +decide only [↓ aB,aD,aC,t4],by simp +decide only [↓ aB,aD,aC,t23],by simp +decide only [↓ aB,aD,aC,t24],by simp +decide only [↓ aB,aD,aC,t25],by simp +decide only [↓ aB,aD,aC,t7],by simp +decide only [↓ aB,aD,aC,t39],by simp +decide only [↓ aB,aD,aC,t40],by simp +decide only [↓ aB,aD,aC],hjt,by omega,(if_pos hn').trans hcb,by simp +decide only [↓ aB,aS,aC,ne_eq],⟨.inr ⟨by simp,idv,g+1,?_,?_,(if_pos hidv).trans hcv,by omega⟩,.inl ⟨hfr,rfl⟩⟩,hgo',by rw [List.length_append];show _+1<=_;omega,by show ob.frs.length<=_;omega,fun fr hfr=>by have:=hb3 fr hfr;omega,
      stay _ _ _ _ (by omega) (by repeat' first | exact Nat.le_refl _ | exact hlow | apply le_min | omega) (fun id h1 h2 h3=>by (have:=far (id:=id) (x:=idv) (by omega));repeat rw [Tr.get_set_ne _ _ (by omega)]) (fun id h1 _=>if_pos h1)⟩
     ·rw [List.length_map,List.length_append];rfl
     ·rw [Tr.get_set_ne _ _ f5,Tr.get_set_same,List.map_append,List.flatten_append];rfl
   have hstep0:∀ f,lD N j y ob=⟨ob.form,ob.n,ob.vals,f⟩->HW N (j+1) ((l.take M).drop (j+1)) ⟨ob.form,ob.n,ob.vals,f⟩=HW N 0 (l.take M) ⟨((1+M%6:Nat):Int),0,[],[]⟩:=fun f h=>by rw [<-h];exact hgo'
   obtain ⟨hv,⟨hfr,rfl⟩ | ⟨idf,g,F,init,fr,e,w,hfr,rfl,hgf,hF,he,hw,hcf,hidf⟩⟩:=hob
   ·exact absurd hfr c2
   have f4:=bK hidf
   have f5:idf≠n:=hnb _ (by omega)
   have f6:=f5.symm
   have f7:=hcn idf (by omega)
   have hFl:F.flatten.length=init.length*3:=by rw [bR _ (hF.all fun _ _ h=>h.len),hF.len]
   obtain ⟨r1,r2,r3,r4,r5⟩:=aAi hFl (.int .i64 fr.node) e w
   have hec:=he.cell
   have hwc:=hw.cell
   have m1:(((init.length+1:Nat):Int) > 0)=True:=eq_true (by omega)
   have m2:IntKind.i64.wrap (((init.length+1:Nat):Int)-1)=((init.length:Nat):Int):=by rw [IntWalk.i64_in _ (by rw [hfr,List.length_append]at hb2;simp at hb2;omega)];omega
   have m3:(0:Int)<=((init.length:Nat):Int):=by omega
   have m4:((init.length:Nat):Int)<((init.length+1:Nat):Int):=by omega
   have m5:init.length*3+1<init.length*3+3/\init.length*3+2<init.length*3+3:=⟨by omega,by omega⟩
   have hb3':=hb3 fr (by rw [hfr];simp)
   by_cases c3:y%2=0
   ·have hgo2:=hstep0 (init++[iO (gY (y/2) N) fr]) (by rw [lD,if_neg c0,if_neg c1,if_neg c2,if_pos c3,hfr,zP])
    have hsmall:(2*(fr.env.length+1)+1024)*16<=281474976710656/\fr.env.length+1<4611686018427387904:=by omega
    have hb4:∀ fr'∈init++[iO (gY (y/2) N) fr],fr'.env.length<=j+1/\fr'.vals.length<=j+1:=fun fr' h=>by
     rcases List.mem_append.1 h with h | h
     ·have:=hb3 fr' (by rw [hfr];exact List.mem_append_left _ h);omega
     ·simp at h;subst h
      simp only [iO,iP,List.length_append,List.length_cons,List.length_nil];omega
    have hb5:(init++[iO (gY (y/2) N) fr]).length<=j+1:=by
     rw [hfr,List.length_append]at hb2
     rw [List.length_append];simp at hb2 ⊢;omega
    rcases he with ⟨hE,rfl⟩ | ⟨hE,idv,gv,rfl,hgv,hcv,hidv⟩
    ·simp +contextual +decide (maxSteps:=1000000) only [↓ wP,wQ,tf,Nat.reduceAdd,ne_eq,t1,t2,t3,t4,t7,t23,t24,t25,t39,t40,t41,g1,g5,hx'.idx,y1,bU,k1,c0,k2,k3,c1,k5,k6,c3,k7,w3,hgb,hgf,f3,f4,f5,f6,m1,m2,m3,m4,m5,r1,r2,r3,r4,r5,hFl,bF,aMy,hsmall,Nat.reduceMul,Nat.mul_one,Nat.zero_mul,Nat.zero_add,Int.toNat_natCast]
     refine ⟨j+1,by show _-_<_-_;omega,_,n'+1+1,_,_,fun id=>if id<n' then c id else 2,v,.sl idf g 0 (init.length+1) (.room 3),⟨ob.form,ob.n,ob.vals,init++[iO (gY (y/2) N) fr]⟩,rfl,by simp +decide only [↓ aB,aD,aC,t1],by simp +decide only [↓ aB,aD,aC,t2],by simp +decide only [↓ aB,aD,aC,t3],by simp +decide only [↓ aB,aD,aC,t4],by simp +decide only [↓ aB,aD,aC,t23],by simp +decide only [↓ aB,aD,aC,t24],by simp +decide only [↓ aB,aD,aC,t25],by simp +decide only [↓ aB,aD,aC,t7],by simp +decide only [↓ aB,aD,aC,t39],by simp +decide only [↓ aB,aD,aC,t40],by simp +decide only [↓ aB,aD,aC],hjt,by omega,(if_pos hn').trans hcb,by simp +decide only [↓ aB,aS,aC,ne_eq,f3,bF,f6,hgb,f4],⟨hv.mono (by omega) fun id h1 h2=>⟨by (have:=far (id:=id) (x:=idf) (by omega));repeat rw [Tr.get_set_ne _ _ (by omega)],(if_pos h1).trans h2⟩,.inr ⟨idf,g,F,init,iO (gY (y/2) N) fr,.sl (n'+1) 0 0 1 (.room 2),w,rfl,rfl,Tr.get_set_same _ _ _,hF.mono fun _ _ h=>h.mono (by omega) fun id h1 h2=>⟨by (have:=far (id:=id) (x:=idf) (by omega));repeat rw [Tr.get_set_ne _ _ (by omega)],(if_pos h1).trans h2⟩,.inr ⟨by simp [iO,iP],n'+1,0,?_,?_,if_neg (by omega),by omega⟩,hw.mono (by omega) fun id h1 h2=>⟨by (have:=far (id:=id) (x:=idf) (by omega));repeat rw [Tr.get_set_ne _ _ (by omega)],(if_pos h1).trans h2⟩,(if_pos hidf).trans hcf,by omega⟩⟩,hgo2,by show ob.vals.length<=_;omega,hb5,hb4,
      stay _ _ _ _ (by omega) (by repeat' first | exact Nat.le_refl _ | exact hlow | apply le_min | omega) (fun id h1 h2 h3=>by (have:=far (id:=id) (x:=idf) (by omega));repeat rw [Tr.get_set_ne _ _ (by omega)]) (fun id h1 _=>if_pos h1)⟩
     ·show AV.sl (n'+1) 0 0 1 (.room 2)=.sl (n'+1) 0 0 (((fr.env++[gY (y/2) N]).map dW).length) (.room 2)
      rw [List.length_map,List.length_append,show fr.env=[] from List.map_eq_nil_iff.1 hE];rfl
     ·show _=some (bE 0 (((fr.env++[gY (y/2) N]).map dW).flatten))
      rw [Tr.get_set_ne _ _ (by omega),Tr.get_set_same,show fr.env=[] from List.map_eq_nil_iff.1 hE];rfl
    ·have f8:=bK hidv
     have f9:idv≠n:=hnb _ (by omega)
     have f10:=f9.symm
     have f11:=hcn idv (by omega)
     have f12:=far (id:=idv) (x:=idf) (by omega)
     have f13:=f12.symm
     have hfl:(fr.env.map dW).flatten.length=fr.env.length*2:=by rw [bR (k:=2) _ (fun x hx=>by obtain ⟨y,_,rfl⟩:=List.mem_map.1 hx;rfl),List.length_map]
     rw [List.length_map]at *
     simp +contextual +decide (maxSteps:=1000000) only [↓ wP,wQ,tf,Nat.reduceAdd,ne_eq,t1,t2,t3,t4,t7,t23,t24,t25,t39,t40,t41,g1,g5,hx'.idx,y1,bU,k1,c0,k2,k3,c1,k5,k6,c3,k7,w3,hgb,hgf,f3,f4,f5,f6,m1,m2,m3,m4,m5,r1,r2,r3,r4,r5,hFl,bF,aMy,hsmall,Nat.reduceMul,Nat.mul_one,Nat.zero_mul,Nat.zero_add,Int.toNat_natCast,f8,f9,f10,f12,f13,hgv,hfl]
     refine ⟨j+1,by show _-_<_-_;omega,_,n'+1,_,_,fun id=>if id<n' then c id else 0,v,.sl idf g 0 (init.length+1) (.room 3),⟨ob.form,ob.n,ob.vals,init++[iO (gY (y/2) N) fr]⟩,rfl,by simp +decide only [↓ aB,aD,aC,t1],by simp +decide only [↓ aB,aD,aC,t2],by simp +decide only [↓ aB,aD,aC,t3],by simp +decide only [↓ aB,aD,aC,t4],by simp +decide only [↓ aB,aD,aC,t23],by simp +decide only [↓ aB,aD,aC,t24],by simp +decide only [↓ aB,aD,aC,t25],by simp +decide only [↓ aB,aD,aC,t7],by simp +decide only [↓ aB,aD,aC,t39],by simp +decide only [↓ aB,aD,aC,t40],by simp +decide only [↓ aB,aD,aC],hjt,by omega,(if_pos hn').trans hcb,by simp +decide only [↓ aB,aS,aC,ne_eq,f3,bF,f6,hgb,f4,f10],⟨hv.mono (by omega) fun id h1 h2=>⟨by (have:=far (id:=id) (x:=idf) (by omega));(have:=far (id:=id) (x:=idv) (by omega));repeat rw [Tr.get_set_ne _ _ (by omega)],(if_pos h1).trans h2⟩,.inr ⟨idf,g,F,init,iO (gY (y/2) N) fr,.sl idv (gv+1) 0 (fr.env.length+1) (.room 2),w,rfl,rfl,Tr.get_set_same _ _ _,hF.mono fun _ _ h=>h.mono (by omega) fun id h1 h2=>⟨by (have:=far (id:=id) (x:=idf) (by omega));(have:=far (id:=id) (x:=idv) (by omega));repeat rw [Tr.get_set_ne _ _ (by omega)],(if_pos h1).trans h2⟩,.inr ⟨by simp [iO,iP],idv,gv+1,?_,?_,(if_pos hidv).trans hcv,by omega⟩,hw.mono (by omega) fun id h1 h2=>⟨by (have:=far (id:=id) (x:=idf) (by omega));(have:=far (id:=id) (x:=idv) (by omega));repeat rw [Tr.get_set_ne _ _ (by omega)],(if_pos h1).trans h2⟩,(if_pos hidf).trans hcf,by omega⟩⟩,hgo2,by show ob.vals.length<=_;omega,hb5,hb4,
      stay _ _ _ _ (by omega) (by repeat' first | exact Nat.le_refl _ | exact hlow | apply le_min | omega) (fun id h1 h2 h3=>by (have:=far (id:=id) (x:=idf) (by omega));(have:=far (id:=id) (x:=idv) (by omega));repeat rw [Tr.get_set_ne _ _ (by omega)]) (fun id h1 _=>if_pos h1)⟩
     ·show AV.sl idv (gv+1) 0 (fr.env.length+1) (.room 2)=.sl idv (gv+1) 0 (((fr.env++[gY (y/2) N]).map dW).length) (.room 2)
      rw [List.length_map,List.length_append];rfl
     ·show _=some (bE (gv+1) (((fr.env++[gY (y/2) N]).map dW).flatten))
      rw [Tr.get_set_ne _ _ f12,Tr.get_set_same,List.map_append,List.flatten_append];rfl
   ·have hgo2:=hstep0 (init++[iP (gY (y/2) N) fr]) (by rw [lD,if_neg c0,if_neg c1,if_neg c2,if_neg c3,hfr,zP])
    have hsmall:(2*(fr.vals.length+1)+1024)*16<=281474976710656/\fr.vals.length+1<4611686018427387904:=by omega
    have hb4:∀ fr'∈init++[iP (gY (y/2) N) fr],fr'.env.length<=j+1/\fr'.vals.length<=j+1:=fun fr' h=>by
     rcases List.mem_append.1 h with h | h
     ·have:=hb3 fr' (by rw [hfr];exact List.mem_append_left _ h);omega
     ·simp at h;subst h
      simp only [iO,iP,List.length_append,List.length_cons,List.length_nil];omega
    have hb5:(init++[iP (gY (y/2) N) fr]).length<=j+1:=by
     rw [hfr,List.length_append]at hb2
     rw [List.length_append];simp at hb2 ⊢;omega
    rcases hw with ⟨hE,rfl⟩ | ⟨hE,idv,gv,rfl,hgv,hcv,hidv⟩
    ·simp +contextual +decide (maxSteps:=1000000) only [↓ wP,wQ,tf,Nat.reduceAdd,ne_eq,t1,t2,t3,t4,t7,t23,t24,t25,t39,t40,t41,g1,g5,hx'.idx,y1,bU,k1,c0,k2,k3,c1,k5,k6,c3,k7,w3,hgb,hgf,f3,f4,f5,f6,m1,m2,m3,m4,m5,r1,r2,r3,r4,r5,hFl,bF,aMz,hsmall,Nat.reduceMul,Nat.mul_one,Nat.zero_mul,Nat.zero_add,Int.toNat_natCast]
     refine ⟨j+1,by show _-_<_-_;omega,_,n'+1+1,_,_,fun id=>if id<n' then c id else 3,v,.sl idf g 0 (init.length+1) (.room 3),⟨ob.form,ob.n,ob.vals,init++[iP (gY (y/2) N) fr]⟩,rfl,by simp +decide only [↓ aB,aD,aC,t1],by simp +decide only [↓ aB,aD,aC,t2],by simp +decide only [↓ aB,aD,aC,t3],by simp +decide only [↓ aB,aD,aC,t4],by simp +decide only [↓ aB,aD,aC,t23],by simp +decide only [↓ aB,aD,aC,t24],by simp +decide only [↓ aB,aD,aC,t25],by simp +decide only [↓ aB,aD,aC,t7],by simp +decide only [↓ aB,aD,aC,t39],by simp +decide only [↓ aB,aD,aC,t40],by simp +decide only [↓ aB,aD,aC],hjt,by omega,(if_pos hn').trans hcb,by simp +decide only [↓ aB,aS,aC,ne_eq,f3,bF,f6,hgb,f4],⟨hv.mono (by omega) fun id h1 h2=>⟨by (have:=far (id:=id) (x:=idf) (by omega));repeat rw [Tr.get_set_ne _ _ (by omega)],(if_pos h1).trans h2⟩,.inr ⟨idf,g,F,init,iP (gY (y/2) N) fr,e,.sl (n'+1) 0 0 1 (.room 2),rfl,rfl,Tr.get_set_same _ _ _,hF.mono fun _ _ h=>h.mono (by omega) fun id h1 h2=>⟨by (have:=far (id:=id) (x:=idf) (by omega));repeat rw [Tr.get_set_ne _ _ (by omega)],(if_pos h1).trans h2⟩,he.mono (by omega) fun id h1 h2=>⟨by (have:=far (id:=id) (x:=idf) (by omega));repeat rw [Tr.get_set_ne _ _ (by omega)],(if_pos h1).trans h2⟩,.inr ⟨by simp [iO,iP],n'+1,0,?_,?_,if_neg (by omega),by omega⟩,(if_pos hidf).trans hcf,by omega⟩⟩,hgo2,by show ob.vals.length<=_;omega,hb5,hb4,
      stay _ _ _ _ (by omega) (by repeat' first | exact Nat.le_refl _ | exact hlow | apply le_min | omega) (fun id h1 h2 h3=>by (have:=far (id:=id) (x:=idf) (by omega));repeat rw [Tr.get_set_ne _ _ (by omega)]) (fun id h1 _=>if_pos h1)⟩
     ·show AV.sl (n'+1) 0 0 1 (.room 2)=.sl (n'+1) 0 0 (((fr.vals++[gY (y/2) N]).map dW).length) (.room 2)
      rw [List.length_map,List.length_append,show fr.vals=[] from List.map_eq_nil_iff.1 hE];rfl
     ·show _=some (bE 0 (((fr.vals++[gY (y/2) N]).map dW).flatten))
      rw [Tr.get_set_ne _ _ (by omega),Tr.get_set_same,show fr.vals=[] from List.map_eq_nil_iff.1 hE];rfl
    ·have f8:=bK hidv
     have f9:idv≠n:=hnb _ (by omega)
     have f10:=f9.symm
     have f11:=hcn idv (by omega)
     have f12:=far (id:=idv) (x:=idf) (by omega)
     have f13:=f12.symm
     have hfl:(fr.vals.map dW).flatten.length=fr.vals.length*2:=by rw [bR (k:=2) _ (fun x hx=>by obtain ⟨y,_,rfl⟩:=List.mem_map.1 hx;rfl),List.length_map]
     rw [List.length_map]at *
     simp +contextual +decide (maxSteps:=1000000) only [↓ wP,wQ,tf,Nat.reduceAdd,ne_eq,t1,t2,t3,t4,t7,t23,t24,t25,t39,t40,t41,g1,g5,hx'.idx,y1,bU,k1,c0,k2,k3,c1,k5,k6,c3,k7,w3,hgb,hgf,f3,f4,f5,f6,m1,m2,m3,m4,m5,r1,r2,r3,r4,r5,hFl,bF,aMz,hsmall,Nat.reduceMul,Nat.mul_one,Nat.zero_mul,Nat.zero_add,Int.toNat_natCast,f8,f9,f10,f12,f13,hgv,hfl]
     refine ⟨j+1,by show _-_<_-_;omega,_,n'+1,_,_,fun id=>if id<n' then c id else 0,v,.sl idf g 0 (init.length+1) (.room 3),⟨ob.form,ob.n,ob.vals,init++[iP (gY (y/2) N) fr]⟩,rfl,by simp +decide only [↓ aB,aD,aC,t1],by simp +decide only [↓ aB,aD,aC,t2],by simp +decide only [↓ aB,aD,aC,t3],by simp +decide only [↓ aB,aD,aC,t4],by simp +decide only [↓ aB,aD,aC,t23],by simp +decide only [↓ aB,aD,aC,t24],by simp +decide only [↓ aB,aD,aC,t25],by simp +decide only [↓ aB,aD,aC,t7],by simp +decide only [↓ aB,aD,aC,t39],by simp +decide only [↓ aB,aD,aC,t40],by simp +decide only [↓ aB,aD,aC],hjt,by omega,(if_pos hn').trans hcb,by simp +decide only [↓ aB,aS,aC,ne_eq,f3,bF,f6,hgb,f4,f10],⟨hv.mono (by omega) fun id h1 h2=>⟨by (have:=far (id:=id) (x:=idf) (by omega));(have:=far (id:=id) (x:=idv) (by omega));repeat rw [Tr.get_set_ne _ _ (by omega)],(if_pos h1).trans h2⟩,.inr ⟨idf,g,F,init,iP (gY (y/2) N) fr,e,.sl idv (gv+1) 0 (fr.vals.length+1) (.room 2),rfl,rfl,Tr.get_set_same _ _ _,hF.mono fun _ _ h=>h.mono (by omega) fun id h1 h2=>⟨by (have:=far (id:=id) (x:=idf) (by omega));(have:=far (id:=id) (x:=idv) (by omega));repeat rw [Tr.get_set_ne _ _ (by omega)],(if_pos h1).trans h2⟩,he.mono (by omega) fun id h1 h2=>⟨by (have:=far (id:=id) (x:=idf) (by omega));(have:=far (id:=id) (x:=idv) (by omega));repeat rw [Tr.get_set_ne _ _ (by omega)],(if_pos h1).trans h2⟩,.inr ⟨by simp [iO,iP],idv,gv+1,?_,?_,(if_pos hidv).trans hcv,by omega⟩,(if_pos hidf).trans hcf,by omega⟩⟩,hgo2,by show ob.vals.length<=_;omega,hb5,hb4,
      stay _ _ _ _ (by omega) (by repeat' first | exact Nat.le_refl _ | exact hlow | apply le_min | omega) (fun id h1 h2 h3=>by (have:=far (id:=id) (x:=idf) (by omega));(have:=far (id:=id) (x:=idv) (by omega));repeat rw [Tr.get_set_ne _ _ (by omega)]) (fun id h1 _=>if_pos h1)⟩
     ·show AV.sl idv (gv+1) 0 (fr.vals.length+1) (.room 2)=.sl idv (gv+1) 0 (((fr.vals++[gY (y/2) N]).map dW).length) (.room 2)
      rw [List.length_map,List.length_append];rfl
     ·show _=some (bE (gv+1) (((fr.vals++[gY (y/2) N]).map dW).flatten))
      rw [Tr.get_set_ne _ _ f12,Tr.get_set_same,List.map_append,List.flatten_append];rfl
  have hjM:j=M:=by omega
  subst hjM
  have g1:(((j:Nat):Int)<(j:Nat))=False:=eq_false (by omega)
  rw [List.drop_of_length_le (show (l.take j).length<=j by rw [List.length_take];omega)]at hgo
  have hobl:ob=uT N l:=by
   have ht:l.take 20=l.take j:=by
    rcases Nat.le_total l.length 20 with h | h
    ·rw [List.take_of_length_le h,List.take_of_length_le (by omega)]
    ·rw [show j=20 by omega]
   have hgo2:ob=_:=hgo
   rw [hgo2,uT,ht,List.length_take,show min j l.length=j by omega]
  have haccl:acc.length=i:=by rw [hacc,List.length_map,List.length_take];omega
  have hacc':acc++[ob]=(sc.objs.take (i+1)).map (uT N):=by
   rw [hacc,hobl,hl,aT (show i<sc.objs.length by omega),List.take_succ_eq_append_getElem (show i<sc.objs.length by omega),List.map_append];rfl
  have hvc:=hob.1.cell
  have hfc:f.isCell=true:=by rcases hob.2 with ⟨_,rfl⟩ | ⟨_,_,_,_,_,_,_,_,rfl,_⟩<;>rfl
  have hvOc:=hvO.cell
  have hz:∀ id,id<=n0+2->c id=0:=fun id hid=>by
   by_cases h:c id=0
   ·exact h
   ·have:=hcn id h;omega
  have hdone:=hob.done (q:=11+2*(0+acc.length)) (c':=fun id=>if 1<=c id/\c id<=4 then 11+2*(0+acc.length) else if c id=5 then 11+2*(0+acc.length)+1 else c id) (fun id h1 h2=>if_pos ⟨h1,h2⟩) (fun id h=>(if_neg (by omega)).trans (if_pos h))
  have hsmall:(2*(acc.length+1)+1024)*64<=281474976710656/\acc.length+1<4611686018427387904:=⟨by omega,by omega⟩
  have hcl:css.length=acc.length:=hcss.len
  have far:∀ {id x:Nat},c id≠c x->id≠x:=fun h e=>h (by rw [e])
  rcases hvO with ⟨hO,rfl⟩ | ⟨hO,idO,gO,rfl,hgO,hcO,hidO⟩
  ·have ha0:acc=[]:=List.length_eq_zero_iff.1 (by rw [<-hcl,hO];rfl)
   simp +contextual +decide (maxSteps:=1000000) only [↓ wP,wQ,tf,Nat.reduceAdd,ne_eq,t1,t2,t3,t4,t7,t23,t24,t25,t39,t40,t41,g1,d5,hgb,hg2,f0,f1,f2,f3,hne,bF,hvc,hfc,hsmall,Nat.reduceMul,Nat.mul_one,Nat.zero_mul,Nat.zero_add]
   have hk:∀ id,id<n'->id≠n0+2->∀ x y z:AObj,(((o.set n' x).set (n'+1) y).set (n0+2) z).get id=o.get id:=fun id h1 h2 x y z=>by repeat rw [Tr.get_set_ne _ _ (by omega)]
   refine ⟨i+1,by show _-_<_-_;omega,_,n'+1+1,_,_,fun id=>if id<n' then (if 1<=c id/\c id<=4 then 11+2*(0+acc.length) else if c id=5 then 11+2*(0+acc.length)+1 else c id) else 6,.sl (n'+1) 0 0 1 (.room 4),[[.int .i64 ob.form,.int .i64 ob.n,v,f]],acc++[ob],rfl,by simp +decide only [↓ aB,aD,aC,t1],by simp +decide only [↓ aB,aD,aC,t2],by simp +decide only [↓ aB,aD,aC,t3],by simp +decide only [↓ aB,aD,aC,t4],by simp +decide only [↓ aB,aD,aC,t23],by simp +decide only [↓ aB,aD,aC,t24],by simp +decide only [↓ aB,aD,aC],hlt,⟨by omega,(by repeat' first | exact Nat.le_refl _ | exact hlow | apply le_min | omega),fun id hid=>(hk id (by omega) (by omega) _ _ _).trans (hoth id hid),fun id hid=>?_,(hk _ (by omega) (by omega) _ _ _).trans hg0,(hk _ (by omega) (by omega) _ _ _).trans hg1,Tr.get_set_same _ _ _,.new (by simp) ?_ (if_neg (by omega)) (by omega),?_⟩,hacc'⟩
   ·by_cases h:id<n'
    ·have hid:(if id<n' then (if 1<=c id/\c id<=4 then 11+2*(0+acc.length) else if c id=5 then 11+2*(0+acc.length)+1 else c id) else 6)≠0:=hid
     by_cases h0:c id=0
     ·rw [if_pos h,if_neg (by omega),if_neg (by omega)]at hid;exact absurd h0 hid
     ·exact hcn id h0
    ·omega
   ·rw [Tr.get_set_ne _ _ (by omega),Tr.get_set_same];rfl
   ·have hd2:=hdone
    rw [ha0]at hd2
    rw [ha0]
    exact ⟨hd2.mono (by omega) fun id h1 h2=>⟨hk id h1 (fun e=>by subst e;have:=hz _ (Nat.le_refl _);rw [this]at h2;simp at h2<;>omega) _ _ _,if_pos h1⟩,trivial⟩
  ·have f8:=bK hidO
   have f9:idO≠n:=fun e=>by rw [e]at hcO;omega
   have f10:=f9.symm
   have f11:=hcn idO (by omega)
   have f12:idO≠n0+2:=by omega
   have f13:=f12.symm
   have hfl:css.flatten.length=acc.length*4:=by rw [bR (k:=4) _ hcss.all,hcl]
   rw [hcl]at *
   simp +contextual +decide (maxSteps:=1000000) only [↓ wP,wQ,tf,Nat.reduceAdd,ne_eq,t1,t2,t3,t4,t7,t23,t24,t25,t39,t40,t41,g1,d5,hgb,hg2,f0,f1,f2,f3,f8,f9,f10,f12,f13,hgO,hfl,hne,bF,hvc,hfc,hsmall,Nat.reduceMul,Nat.mul_one,Nat.zero_mul,Nat.zero_add]
   have hk:∀ id,id<n'->id≠n0+2->id≠idO->∀ x y z:AObj,(((o.set n' x).set idO y).set (n0+2) z).get id=o.get id:=fun id h1 h2 h3 x y z=>by repeat rw [Tr.get_set_ne _ _ (by omega)]
   refine ⟨i+1,by show _-_<_-_;omega,_,n'+1,_,_,fun id=>if id<n' then (if 1<=c id/\c id<=4 then 11+2*(0+acc.length) else if c id=5 then 11+2*(0+acc.length)+1 else c id) else 0,.sl idO (gO+1) 0 (acc.length+1) (.room 4),css++[[.int .i64 ob.form,.int .i64 ob.n,v,f]],acc++[ob],rfl,by simp +decide only [↓ aB,aD,aC,t1],by simp +decide only [↓ aB,aD,aC,t2],by simp +decide only [↓ aB,aD,aC,t3],by simp +decide only [↓ aB,aD,aC,t4],by simp +decide only [↓ aB,aD,aC,t23],by simp +decide only [↓ aB,aD,aC,t24],by simp +decide only [↓ aB,aD,aC],hlt,⟨by omega,(by repeat' first | exact Nat.le_refl _ | exact hlow | apply le_min | omega),fun id hid=>(hk id (by omega) (by omega) (by omega) _ _ _).trans (hoth id hid),fun id hid=>?_,(hk _ (by omega) (by omega) (by omega) _ _ _).trans hg0,(hk _ (by omega) (by omega) (by omega) _ _ _).trans hg1,Tr.get_set_same _ _ _,.inr ⟨by simp,idO,gO+1,?_,?_,(if_pos hidO).trans ((if_neg (by omega)).trans ((if_neg (by omega)).trans hcO)),by omega⟩,?_⟩,hacc'⟩
   ·by_cases h:id<n'
    ·have hid:(if id<n' then (if 1<=c id/\c id<=4 then 11+2*(0+acc.length) else if c id=5 then 11+2*(0+acc.length)+1 else c id) else 0)≠0:=hid
     by_cases h0:c id=0
     ·rw [if_pos h,if_neg (by omega),if_neg (by omega)]at hid;exact absurd h0 hid
     ·exact hcn id h0
    ·omega
   ·rw [List.length_append,hcss.len];rfl
   ·rw [Tr.get_set_ne _ _ f12,Tr.get_set_same,List.flatten_append];simp
   ·refine LO.snoc (hcss.mono (by omega) fun id h1 h2=>⟨hk id h1 (by have:=hcn id (by omega);omega) (far (by omega)) _ _ _,(if_pos h1).trans ((if_neg (by omega)).trans (if_neg (by omega)))⟩) (hdone.mono (by omega) fun id h1 h2=>⟨hk id h1 (fun e=>by subst e;have:=hz _ (Nat.le_refl _);rw [this]at h2;simp at h2<;>omega) (fun e=>by subst e;rw [hcO]at h2;simp at h2<;>omega) _ _ _,if_pos h1⟩)
 have hiN:i=N:=by omega
 subst hiN
 have d1:(((i:Nat):Int)<(i:Nat))=False:=eq_false (by omega)
 obtain ⟨K,hK⟩:∃ K,K=min sc.tasks.length 40:=⟨_,rfl⟩
 obtain ⟨ts',hts',htsl⟩:=TG hts aNe (fun x hx=>by obtain ⟨y,_,rfl⟩:=List.mem_map.1 hx;rfl) (m:=K) (by rw [List.length_map];omega)
 have htsl:=fun {q}=>htsl (q:=q)
 have htmin:(if (40:Int)<((sc.tasks.length:Nat):Int) then (40:Int) else ((sc.tasks.length:Nat):Int))=((K:Nat):Int):=by split<;>omega
 have htlen:((sc.tasks.map encB).take K).length=K:=by rw [List.length_take,List.length_map];omega
 simp +contextual +decide (maxSteps:=1000000) only [↓ wP,wQ,tf,Nat.reduceAdd,ne_eq,t1,t2,t3,t4,t23,t24,t25,d1,hg0,f0,hts.len,List.length_map,IL,htmin,htsl,hts'.len,htlen,bF]
 obtain ⟨T,hT⟩:∃ T,T=qQ i sc.tasks:=⟨_,rfl⟩
 refine cB (fun j e=>∃ t n low o c vT,e=⟨201,none,17,t,[],⟨n,low,o⟩,.no⟩/\t.val 1=.ptr n0 0 0/\t.val 2=.ptr (n0+1) 0 0/\t.val 3=.ptr (n0+2) 0 0/\t.val 4=.int .i64 (i:Nat)/\t.val 141=ts'/\t.val 142=.int .i64 (K:Nat)/\t.val 143=.int .i64 (j:Nat)/\j<=K/\Sv c 8 n o vT 1 ((T.take j).map qR)/\OutS n0 o0 os ts us sc.used n low o c vO vT .nils .nils (.int .i64 0) css acc) (fun j=>K-j) 0
  ⟨_,n,_,_,c,.nils,rfl,by simp +decide only [↓ aB,aD,aC,t1],by simp +decide only [↓ aB,aD,aC,t2],by simp +decide only [↓ aB,aD,aC,t3],by simp +decide only [↓ aB,aD,aC,t4],by simp +decide only [↓ aB,aD,aC],by simp +decide only [↓ aB,aD,aC],by simp +decide only [↓ aB,aD,aC];rfl,Nat.zero_le _,.inl ⟨rfl,rfl⟩,⟨hn,hlow,hoth,hcn,hg0,hg1,hg2,hvO,hcss⟩⟩ ?_
 clear t1 t2 t3 t4 t23 t24 t25 f0 f1 f2 hg0 hg1 hg2 hvO hcss hoth hcn hlow hlt d1 hsl hos' hlen' hmin hxs hn
 rintro j _ ⟨t,n,low,o,c,vT,rfl,t1,t2,t3,t4,t141,t142,t143,hj,hvT,hS⟩
 have hS0:=hS
 obtain ⟨hn,hlow,hoth,hcn,hg0,hg1,hg2,hvO,hcss⟩:=hS
 have f0:=bK (show n0<n by omega)
 have f2:=bK (show n0+2<n by omega)
 have hvTc:=hvT.cell
 by_cases hlt:j<K
 ·have d1:((j:Int)<(K:Nat))=True:=eq_true (by omega)
  have d5:=bH (i:=j) (by omega)
  obtain ⟨y,hy⟩:∃ y,y=sc.tasks.getD j 0:=⟨_,rfl⟩
  have hyb:y<256:=by rw [hy,aT (show j<sc.tasks.length by omega)];exact htb _ (List.getElem_mem _)
  have y1:∀ {q:IntKind} {d:Option AV},eU (some 1) ((sc.tasks.map encB).take K) (.int q (j:Nat)) d=some (.pf (.int .u8 (y:Nat))):=fun {q d}=>by
   refine (iL (by omega) (by omega) ?_ rfl)
   rw [Int.toNat_natCast,List.getElem?_take,if_pos hlt,List.getElem?_map,List.getElem?_eq_getElem (show j<sc.tasks.length by omega),hy,aT (show j<sc.tasks.length by omega)];rfl
  have k1:(((i:Nat):Int) > 0)=(0<i):=propext (by omega)
  by_cases hi0:0<i
  ·have k4:=cF (n:=y) (by omega)
   have k5:Int.tmod ((y:Nat):Int) ((i:Nat):Int)=((y%i:Nat):Int):=dB
   have k6:((i:Nat):Int)≠0:=by omega
   have hTl:T.length=K:=by rw [hT,qQ,if_neg (by omega),List.length_map,List.length_take];omega
   have hTs:T.take (j+1)=T.take j++[((y%i:Nat):Int)]:=by
    rw [yV (d:=0) (show j<T.length by omega),aT (show j<T.length by omega)]
    have hTm:T=(sc.tasks.take 40).map fun t=>((t%i:Nat):Int):=by rw [hT,qQ,if_neg (by omega)]
    congr 2
    simp only [hTm,List.getElem_map,List.getElem_take]
    rw [hy,aT (show j<sc.tasks.length by omega)]
   have hTk:(T.take j).length=j:=by rw [List.length_take];omega
   have hsmall:(2*(j+1)+1024)*8<=281474976710656/\j+1<4611686018427387904:=⟨by omega,by omega⟩
   rcases hvT with ⟨hE,rfl⟩ | ⟨hE,idv,gv,rfl,hgv,hcv,hidv⟩
   ·have hj0:j=0:=by rw [<-hTk,show T.take j=[] from List.map_eq_nil_iff.1 hE];rfl
    simp +contextual +decide (maxSteps:=1000000) only [↓ wP,wQ,tf,Nat.reduceAdd,ne_eq,t1,t2,t3,t4,t141,t142,t143,d1,d5,hts'.idx,y1,bU,k1,hi0,k4,k5,k6,hg2,f0,f2,bF,aNa,Nat.reduceMul,Nat.mul_one,Nat.zero_mul,Nat.zero_add]
    refine ⟨j+1,by show _-_<_-_;omega,_,n+1+1,_,_,fun id=>if id<n then c id else 8,.sl (n+1) 0 0 1 (.room 1),rfl,by simp +decide only [↓ aB,aD,aC,t1],by simp +decide only [↓ aB,aD,aC,t2],by simp +decide only [↓ aB,aD,aC,t3],by simp +decide only [↓ aB,aD,aC,t4],by simp +decide only [↓ aB,aD,aC,t141],by simp +decide only [↓ aB,aD,aC,t142],by simp +decide only [↓ aB,aD,aC],hlt,.inr ⟨by rw [hTs];simp,n+1,0,by rw [hTs,List.length_map,List.length_append,hTk,hj0];rfl,?_,if_neg (by omega),by omega⟩,(hS0.step (by omega) (by repeat' first | exact Nat.le_refl _ | exact hlow | apply le_min | omega) (fun id h1 h2 h3=>⟨by repeat rw [Tr.get_set_ne _ _ (by omega)],if_pos h1⟩) ((if_pos (by omega)).trans ?_) (Tr.get_set_same _ _ _)).1⟩
    ·rw [Tr.get_set_ne _ _ (by omega),Tr.get_set_same,hTs,show T.take j=[] from List.map_eq_nil_iff.1 hE];rfl
    ·by_cases h:c (n0+2)=0
     ·exact h
     ·have:=hcn _ h;omega
   ·have f8:=bK hidv
    have f11:=hcn idv (by omega)
    have f12:idv≠n0+2:=by omega
    have f13:=f12.symm
    have hfl:((T.take j).map qR).flatten.length=j*1:=by rw [bR (k:=1) _ (fun x hx=>by obtain ⟨y,_,rfl⟩:=List.mem_map.1 hx;rfl),List.length_map,hTk]
    rw [List.length_map,hTk]at *
    simp +contextual +decide (maxSteps:=1000000) only [↓ wP,wQ,tf,Nat.reduceAdd,ne_eq,t1,t2,t3,t4,t141,t142,t143,d1,d5,hts'.idx,y1,bU,k1,hi0,k4,k5,k6,hg2,hgv,hfl,hsmall,f0,f2,f8,f12,f13,bF,aNa,Nat.reduceMul,Nat.mul_one,Nat.zero_mul,Nat.zero_add]
    refine ⟨j+1,by show _-_<_-_;omega,_,n+1,_,_,fun id=>if id<n then c id else 0,.sl idv (gv+1) 0 (j+1) (.room 1),rfl,by simp +decide only [↓ aB,aD,aC,t1],by simp +decide only [↓ aB,aD,aC,t2],by simp +decide only [↓ aB,aD,aC,t3],by simp +decide only [↓ aB,aD,aC,t4],by simp +decide only [↓ aB,aD,aC,t141],by simp +decide only [↓ aB,aD,aC,t142],by simp +decide only [↓ aB,aD,aC],hlt,.inr ⟨by rw [hTs];simp,idv,gv+1,by rw [hTs,List.length_map,List.length_append,List.length_take,Nat.min_eq_left (by omega)];rfl,?_,(if_pos hidv).trans hcv,by omega⟩,(hS0.step (by omega) (by repeat' first | exact Nat.le_refl _ | exact hlow | apply le_min | omega) (fun id h1 h2 h3=>⟨by (have:id≠idv:=fun e=>by rw [e]at h3;omega);repeat rw [Tr.get_set_ne _ _ (by omega)],if_pos h1⟩) ((if_pos (by omega)).trans ?_) (Tr.get_set_same _ _ _)).1⟩
    ·rw [Tr.get_set_ne _ _ f12,Tr.get_set_same,hTs,List.map_append,List.flatten_append];rfl
    ·by_cases h:c (n0+2)=0
     ·exact h
     ·have:=hcn _ h;omega
  ·have hT0:T=[]:=by rw [hT,qQ,if_pos (by omega)]
   have hi0':i=0:=by omega
   simp +contextual +decide (maxSteps:=1000000) only [↓ wP,wQ,tf,Nat.reduceAdd,ne_eq,t1,t2,t3,t4,t141,t142,t143,d1,d5,hts'.idx,y1,bU,k1,hi0,f0,f2,bF]
   exact ⟨j+1,by show _-_<_-_;omega,_,n,low,o,c,vT,rfl,by simp +decide only [↓ aB,aD,aC,t1],by simp +decide only [↓ aB,aD,aC,t2],by simp +decide only [↓ aB,aD,aC,t3],by simp +decide only [↓ aB,aD,aC,t4],by simp +decide only [↓ aB,aD,aC,t141],by simp +decide only [↓ aB,aD,aC,t142],by simp +decide only [↓ aB,aD,aC],hlt,by rw [hT0]at hvT ⊢;simpa using hvT,hS0⟩
 have hjK:j=K:=by omega
 subst hjK
 have d1:(((j:Nat):Int)<(j:Nat))=False:=eq_false (by omega)
 have hTl:T.take j=T:=by
  apply List.take_of_length_le
  rw [hT,qQ]
  split
  ·exact Nat.zero_le _
  ·rw [List.length_map,List.length_take];omega
 rw [hTl]at hvT
 obtain ⟨L,hL⟩:∃ L,L=min sc.outs.length 40:=⟨_,rfl⟩
 obtain ⟨us',hus',husl⟩:=TG hus aNf (fun x hx=>by obtain ⟨y,_,rfl⟩:=List.mem_map.1 hx;rfl) (m:=L) (by rw [List.length_map];omega)
 have husl:=fun {q}=>husl (q:=q)
 have humin:(if (40:Int)<((sc.outs.length:Nat):Int) then (40:Int) else ((sc.outs.length:Nat):Int))=((L:Nat):Int):=by split<;>omega
 have hulen:((sc.outs.map PL).take L).length=L:=by rw [List.length_take,List.length_map];omega
 simp +contextual +decide (maxSteps:=1000000) only [↓ wP,wQ,tf,Nat.reduceAdd,ne_eq,t1,t2,t3,t4,t141,t142,t143,d1,hg0,f0,hus.len,List.length_map,IL,humin,husl,hus'.len,hulen,bF]
 refine cB (fun j e=>∃ t n low o c vU vI U I,e=⟨201,none,17,t,[],⟨n,low,o⟩,.no⟩/\t.val 1=.ptr n0 0 0/\t.val 2=.ptr (n0+1) 0 0/\t.val 3=.ptr (n0+2) 0 0/\t.val 165=us'/\t.val 166=.int .i64 (L:Nat)/\t.val 167=.int .i64 (j:Nat)/\j<=L/\Sv c 8 n o vT 1 (T.map qR)/\Sv c 9 n o vU 2 (U.map dW)/\Sv c 10 n o vI 1 (I.map qR)/\U++oO j ((sc.outs.take L).drop j)=oO 0 (sc.outs.take L)/\I++wB j ((sc.outs.take L).drop j)=wB 0 (sc.outs.take L)/\U.length<=j/\I.length<=j/\OutS n0 o0 os ts us sc.used n low o c vO vT vU vI (.int .i64 0) css acc) (fun j=>L-j) 0
  ⟨_,n,_,_,c,.nils,.nils,[],[],rfl,by simp +decide only [↓ aB,aD,aC,t1],by simp +decide only [↓ aB,aD,aC,t2],by simp +decide only [↓ aB,aD,aC,t3],by simp +decide only [↓ aB,aD,aC],by simp +decide only [↓ aB,aD,aC],by simp +decide only [↓ aB,aD,aC];rfl,Nat.zero_le _,hvT,.inl ⟨rfl,rfl⟩,.inl ⟨rfl,rfl⟩,rfl,rfl,Nat.zero_le _,Nat.zero_le _,hS0⟩ ?_
 clear t1 t2 t3 t4 t141 t142 t143 f0 f2 hg0 hg1 hg2 hvO hcss hoth hcn hlow hlt d1 hvT hS0 hvTc hn
 rintro k _ ⟨t,n,low,o,c,vU,vI,U,I,rfl,t1,t2,t3,t165,t166,t167,hk,hvT,hvU,hvI,hU,hI,hUl,hIl,hS⟩
 have hS0:=hS
 obtain ⟨hn,hlow,hoth,hcn,hg0,hg1,hg2,hvO,hcss⟩:=hS
 have f0:=bK (show n0<n by omega)
 have f1:=bK (show n0+1<n by omega)
 have f2:=bK (show n0+2<n by omega)
 have hvOc:=hvO.cell
 have hvTc:=hvT.cell
 have hvUc:=hvU.cell
 have hvIc:=hvI.cell
 have hz2:c (n0+2)=0:=by
  by_cases h:c (n0+2)=0
  ·exact h
  ·have:=hcn _ h;omega
 have far:∀ {id x:Nat},c id≠c x->id≠x:=fun h e=>h (by rw [e])
 by_cases hlt:k<L
 ·have d1:((k:Int)<(L:Nat))=True:=eq_true (by omega)
  have d5:=bH (i:=k) (by omega)
  have hkl:k<(sc.outs.take L).length:=by rw [List.length_take];omega
  have hdrop:=List.drop_eq_getElem_cons hkl
  have hyb:=hub _ (List.mem_of_mem_take (List.getElem_mem hkl))
  have y1:∀ {q:IntKind} {d:Option AV},eU (some 2) ((sc.outs.map PL).take L) (.int q (k:Nat)) d=some (.pf (PL (sc.outs.take L)[k])):=fun {q d}=>by
   refine (iL (by omega) (by omega) ?_ rfl)
   rw [Int.toNat_natCast,<-List.map_take,List.getElem?_map,List.getElem?_eq_getElem hkl];rfl
  rw [hdrop]at hU hI
  generalize (sc.outs.take L)[k]=xy at *
  obtain ⟨y,z⟩:=xy
  simp only at hyb
  have k2:Int.tmod ((k:Nat):Int) 2=((k%2:Nat):Int):=dB
  have k3:(((k%2:Nat):Int)=0)=(k%2=0):=propext (by omega)
  have w1:=HS hyb.1
  have w2:=HS hyb.2
  have hoI:PL (y,z)=.agg [.int .u16 (y:Nat),.int .u16 (z:Nat)]:=rfl
  by_cases c0:k%2=0
  ·have hsmall:(2*(U.length+1)+1024)*16<=281474976710656/\U.length+1<4611686018427387904:=⟨by omega,by omega⟩
   rcases hvU with ⟨hE,rfl⟩ | ⟨hE,idv,gv,rfl,hgv,hcv,hidv⟩
   ·simp +contextual +decide (maxSteps:=1000000) only [↓ wP,wQ,tf,Nat.reduceAdd,ne_eq,t1,t2,t3,t165,t166,t167,d1,d5,hus'.idx,y1,hoI,cM,k2,k3,c0,w1,w2,hg2,f0,f1,f2,bF,aNb,hsmall,hvOc,hvTc,hvIc,Nat.reduceMul,Nat.mul_one,Nat.zero_mul,Nat.zero_add,Int.reduceToNat]
    have hk:∀ id,id<n->id≠n0+2->∀ w x y z u:AObj,(((((o.set n u).set n w).set (n+1) x).set (n+1+1) y).set (n0+2) z).get id=o.get id:=fun id h1 h2 w x y z u=>by repeat rw [Tr.get_set_ne _ _ (by omega)]
    refine ⟨k+1,by show _-_<_-_;omega,_,n+1+1+1,_,_,fun id=>if id<n then c id else 9,.sl (n+1+1) 0 0 1 (.room 2),vI,U++[(pF y,pF z)],I,rfl,by simp +decide only [↓ aB,aD,aC,t1],by simp +decide only [↓ aB,aD,aC,t2],by simp +decide only [↓ aB,aD,aC,t3],by simp +decide only [↓ aB,aD,aC,t165],by simp +decide only [↓ aB,aD,aC,t166],by simp +decide only [↓ aB,aD,aC],hlt,hvT.mono (by omega) fun id h1 h2=>⟨hk id h1 (by rintro rfl;omega) _ _ _ _ _,(if_pos h1).trans h2⟩,.inr ⟨by simp,n+1+1,0,by rw [List.length_map,List.length_append,show U=[] from List.map_eq_nil_iff.1 hE];rfl,?_,if_neg (by omega),by omega⟩,hvI.mono (by omega) fun id h1 h2=>⟨hk id h1 (by rintro rfl;omega) _ _ _ _ _,(if_pos h1).trans h2⟩,by rw [<-hU,oO,if_pos c0,List.append_assoc];rfl,by rw [<-hI,wB,if_pos c0],by rw [List.length_append];show _+1<=_;omega,by omega,(hS0.step (by omega) (by repeat' first | exact Nat.le_refl _ | exact hlow | apply le_min | omega) (fun id h1 h2 h3=>⟨hk id h1 h2 _ _ _ _ _,if_pos h1⟩) ((if_pos (by omega)).trans hz2) (Tr.get_set_same _ _ _)).1⟩
    rw [Tr.get_set_ne _ _ (by omega),Tr.get_set_same,show U=[] from List.map_eq_nil_iff.1 hE];rfl
   ·have f8:=bK hidv
    have f11:=hcn idv (by omega)
    have f12:idv≠n0+2:=by omega
    have f13:=f12.symm
    have hfl:(U.map dW).flatten.length=U.length*2:=by rw [bR (k:=2) _ (fun x hx=>by obtain ⟨y,_,rfl⟩:=List.mem_map.1 hx;rfl),List.length_map]
    rw [List.length_map]at *
    simp +contextual +decide (maxSteps:=1000000) only [↓ wP,wQ,tf,Nat.reduceAdd,ne_eq,t1,t2,t3,t165,t166,t167,d1,d5,hus'.idx,y1,hoI,cM,k2,k3,c0,w1,w2,hg2,f0,f1,f2,bF,aNb,hsmall,hvOc,hvTc,hvIc,Nat.reduceMul,Nat.mul_one,Nat.zero_mul,Nat.zero_add,Int.reduceToNat,f8,f12,f13,hgv,hfl]
    have hk:∀ id,id<n->id≠n0+2->id≠idv->∀ w x y z u:AObj,(((((o.set n u).set n w).set (n+1) x).set idv y).set (n0+2) z).get id=o.get id:=fun id h1 h2 h3 w x y z u=>by repeat rw [Tr.get_set_ne _ _ (by omega)]
    refine ⟨k+1,by show _-_<_-_;omega,_,n+1+1,_,_,fun id=>if id<n then c id else 0,.sl idv (gv+1) 0 (U.length+1) (.room 2),vI,U++[(pF y,pF z)],I,rfl,by simp +decide only [↓ aB,aD,aC,t1],by simp +decide only [↓ aB,aD,aC,t2],by simp +decide only [↓ aB,aD,aC,t3],by simp +decide only [↓ aB,aD,aC,t165],by simp +decide only [↓ aB,aD,aC,t166],by simp +decide only [↓ aB,aD,aC],hlt,hvT.mono (by omega) fun id h1 h2=>⟨hk id h1 (by rintro rfl;omega) (far (by omega)) _ _ _ _ _,(if_pos h1).trans h2⟩,.inr ⟨by simp,idv,gv+1,by rw [List.length_map,List.length_append];rfl,?_,(if_pos hidv).trans hcv,by omega⟩,hvI.mono (by omega) fun id h1 h2=>⟨hk id h1 (by rintro rfl;omega) (far (by omega)) _ _ _ _ _,(if_pos h1).trans h2⟩,by rw [<-hU,oO,if_pos c0,List.append_assoc];rfl,by rw [<-hI,wB,if_pos c0],by rw [List.length_append];show _+1<=_;omega,by omega,(hS0.step (by omega) (by repeat' first | exact Nat.le_refl _ | exact hlow | apply le_min | omega) (fun id h1 h2 h3=>⟨hk id h1 h2 (far (by omega)) _ _ _ _ _,if_pos h1⟩) ((if_pos (by omega)).trans hz2) (Tr.get_set_same _ _ _)).1⟩
    rw [Tr.get_set_ne _ _ f12,Tr.get_set_same,List.map_append,List.flatten_append];rfl
  ·have hsmall:(2*(I.length+1)+1024)*8<=281474976710656/\I.length+1<4611686018427387904:=⟨by omega,by omega⟩
   rcases hvI with ⟨hE,rfl⟩ | ⟨hE,idv,gv,rfl,hgv,hcv,hidv⟩
   ·simp +contextual +decide (maxSteps:=1000000) only [↓ wP,wQ,tf,Nat.reduceAdd,ne_eq,t1,t2,t3,t165,t166,t167,d1,d5,hus'.idx,y1,hoI,cM,k2,k3,c0,w1,w2,hg2,f0,f1,f2,bF,aNc,hsmall,hvOc,hvTc,hvUc,Nat.reduceMul,Nat.mul_one,Nat.zero_mul,Nat.zero_add,Int.reduceToNat]
    have hk:∀ id,id<n->id≠n0+2->∀ w x y z u:AObj,(((((o.set n u).set n w).set (n+1) x).set (n+1+1) y).set (n0+2) z).get id=o.get id:=fun id h1 h2 w x y z u=>by repeat rw [Tr.get_set_ne _ _ (by omega)]
    refine ⟨k+1,by show _-_<_-_;omega,_,n+1+1+1,_,_,fun id=>if id<n then c id else 10,vU,.sl (n+1+1) 0 0 1 (.room 1),U,I++[pF y],rfl,by simp +decide only [↓ aB,aD,aC,t1],by simp +decide only [↓ aB,aD,aC,t2],by simp +decide only [↓ aB,aD,aC,t3],by simp +decide only [↓ aB,aD,aC,t165],by simp +decide only [↓ aB,aD,aC,t166],by simp +decide only [↓ aB,aD,aC],hlt,hvT.mono (by omega) fun id h1 h2=>⟨hk id h1 (by rintro rfl;omega) _ _ _ _ _,(if_pos h1).trans h2⟩,hvU.mono (by omega) fun id h1 h2=>⟨hk id h1 (by rintro rfl;omega) _ _ _ _ _,(if_pos h1).trans h2⟩,.inr ⟨by simp,n+1+1,0,by rw [List.length_map,List.length_append,show I=[] from List.map_eq_nil_iff.1 hE];rfl,?_,if_neg (by omega),by omega⟩,by rw [<-hU,oO,if_neg c0],by rw [<-hI,wB,if_neg c0,List.append_assoc];rfl,by omega,by rw [List.length_append];show _+1<=_;omega,(hS0.step (by omega) (by repeat' first | exact Nat.le_refl _ | exact hlow | apply le_min | omega) (fun id h1 h2 h3=>⟨hk id h1 h2 _ _ _ _ _,if_pos h1⟩) ((if_pos (by omega)).trans hz2) (Tr.get_set_same _ _ _)).1⟩
    rw [Tr.get_set_ne _ _ (by omega),Tr.get_set_same,show I=[] from List.map_eq_nil_iff.1 hE];rfl
   ·have f8:=bK hidv
    have f11:=hcn idv (by omega)
    have f12:idv≠n0+2:=by omega
    have f13:=f12.symm
    have hfl:(I.map qR).flatten.length=I.length*1:=by rw [bR (k:=1) _ (fun x hx=>by obtain ⟨y,_,rfl⟩:=List.mem_map.1 hx;rfl),List.length_map]
    rw [List.length_map]at *
    simp +contextual +decide (maxSteps:=1000000) only [↓ wP,wQ,tf,Nat.reduceAdd,ne_eq,t1,t2,t3,t165,t166,t167,d1,d5,hus'.idx,y1,hoI,cM,k2,k3,c0,w1,w2,hg2,f0,f1,f2,bF,aNc,hsmall,hvOc,hvTc,hvUc,Nat.reduceMul,Nat.mul_one,Nat.zero_mul,Nat.zero_add,Int.reduceToNat,f8,f12,f13,hgv,hfl]
    have hk:∀ id,id<n->id≠n0+2->id≠idv->∀ w x y z u:AObj,(((((o.set n u).set n w).set (n+1) x).set idv y).set (n0+2) z).get id=o.get id:=fun id h1 h2 h3 w x y z u=>by repeat rw [Tr.get_set_ne _ _ (by omega)]
    refine ⟨k+1,by show _-_<_-_;omega,_,n+1+1,_,_,fun id=>if id<n then c id else 0,vU,.sl idv (gv+1) 0 (I.length+1) (.room 1),U,I++[pF y],rfl,by simp +decide only [↓ aB,aD,aC,t1],by simp +decide only [↓ aB,aD,aC,t2],by simp +decide only [↓ aB,aD,aC,t3],by simp +decide only [↓ aB,aD,aC,t165],by simp +decide only [↓ aB,aD,aC,t166],by simp +decide only [↓ aB,aD,aC],hlt,hvT.mono (by omega) fun id h1 h2=>⟨hk id h1 (by rintro rfl;omega) (far (by omega)) _ _ _ _ _,(if_pos h1).trans h2⟩,hvU.mono (by omega) fun id h1 h2=>⟨hk id h1 (by rintro rfl;omega) (far (by omega)) _ _ _ _ _,(if_pos h1).trans h2⟩,.inr ⟨by simp,idv,gv+1,by rw [List.length_map,List.length_append];rfl,?_,(if_pos hidv).trans hcv,by omega⟩,by rw [<-hU,oO,if_neg c0],by rw [<-hI,wB,if_neg c0,List.append_assoc];rfl,by omega,by rw [List.length_append];show _+1<=_;omega,(hS0.step (by omega) (by repeat' first | exact Nat.le_refl _ | exact hlow | apply le_min | omega) (fun id h1 h2 h3=>⟨hk id h1 h2 (far (by omega)) _ _ _ _ _,if_pos h1⟩) ((if_pos (by omega)).trans hz2) (Tr.get_set_same _ _ _)).1⟩
    rw [Tr.get_set_ne _ _ f12,Tr.get_set_same,List.map_append,List.flatten_append];rfl
 have hkL:k=L:=by omega
 subst hkL
 have d1:(((k:Nat):Int)<(k:Nat))=False:=eq_false (by omega)
 rw [List.drop_of_length_le (by rw [List.length_take];omega)]at hU hI
 have e1:=cF (n:=sc.used) (by omega)
 simp +contextual +decide (maxSteps:=1000000) only [↓ wP,wQ,tf,Nat.reduceAdd,ne_eq,t1,t2,t3,t165,t166,t167,d1,hg0,hg1,hg2,f0,f1,f2,bF,e1,hvOc,hvTc,hvUc,hvIc,aL,Option.bind_some]
 have ht:∀ {α:Type} (l:List α) (m:Nat),m=min l.length 40->l.take 40=l.take m:=fun l m h=>by
  rcases Nat.le_total l.length 40 with h' | h'
  ·rw [List.take_of_length_le h',List.take_of_length_le (by omega)]
  ·rw [show m=40 by omega]
 have hU2:U=oO 0 (sc.outs.take k):=by rw [<-hU];simp [oO]
 have hI2:I=wB 0 (sc.outs.take k):=by rw [<-hI];simp [wB]
 have hWd:eD sc=⟨acc,T,U,I,((sc.used:Nat):Int)⟩:=by rw [eD,<-hN,ht sc.objs i hN,ht sc.outs k hL,<-hacc,<-hT,<-hU2,<-hI2]
 have hkk:∀ id,id<n->c id≠0->∀ x y:AObj,((o.set (n0+2) x).set (n0+1) y).get id=o.get id:=fun id h1 h2 x y=>by
  have:=hcn id h2
  repeat rw [Tr.get_set_ne _ _ (by omega)]
 refine ⟨n,_,_,c,rfl,by omega,(by repeat' first | exact Nat.le_refl _ | exact hlow | apply le_min | omega),fun id hid=>?_,fun id h=>by have:=hcn id h;omega,vO,vT,vU,vI,css,?_,hvO.mono (Nat.le_refl _) fun id h1 h2=>⟨hkk id h1 (by omega) _ _,h2⟩,?_,?_,?_,?_⟩
 ·repeat rw [Tr.get_set_ne _ _ (by omega)]
  exact hoth id hid
 ·rw [hWd]
 ·rw [hWd]
  exact hcss.mono (Nat.le_refl _) fun id h1 h2=>⟨hkk id h1 (by omega) _ _,rfl⟩
 ·rw [hWd]
  exact hvT.mono (Nat.le_refl _) fun id h1 h2=>⟨hkk id h1 (by omega) _ _,h2⟩
 ·rw [hWd]
  exact hvU.mono (Nat.le_refl _) fun id h1 h2=>⟨hkk id h1 (by omega) _ _,h2⟩
 ·rw [hWd]
  exact hvI.mono (Nat.le_refl _) fun id h1 h2=>⟨hkk id h1 (by omega) _ _,h2⟩
end
end Go.Proofs.Ytajngkkihadgfaa
/-
 The law's worlds by numbers: the contract;such a world can be stored.
-/
namespace Go.Proofs.Ytajngkkihadgfaa
open Go.Abs Go Go.Abs.TryF
noncomputable section
set_option maxRecDepth 10000
theorem L2.get {α:Type} {R:List AV->α->Prop}:∀ {l:List (List AV)} {m:List α},L2 R l m->∀ (i:Nat) x y,l[i]?=some x->m[i]?=some y->R x y
 | [],[],_,i,x,y,h,_=>by simp at h
 | a::l,b::m,⟨h1,h2⟩,i,x,y,e1,e2=>by
   cases i with
   | zero=>simp at e1 e2;subst e1;subst e2;exact h1
   | succ i=>exact L2.get h2 i x y (by simpa using e1) (by simpa using e2)
section
variable {c:Nat->Nat} {q n m low:Nat} {o:Tr AObj}
theorem Sv.frzV {v:AV} {l:List eA} (h:Sv c q n o v 2 (l.map dW)) (hm:∀ id,c id=q->m<=id):Frz ⟨n,low,o⟩ m v (cN l):=by
 have:=TH (low:=low) (ts:=l.map fJ) h hm (by simp) (fun x hx=>by obtain ⟨y,_,rfl⟩:=List.mem_map.1 hx;rfl) (fun x hx=>by obtain ⟨y,_,rfl⟩:=List.mem_map.1 hx;rfl) fun i j x y t z e1 e2 e3 e4=>by
  rw [List.getElem?_map]at e1 e3
  cases hl:l[i]? with
  | none=>rw [hl]at e1;cases e1
  | some w=>
    rw [hl]at e1 e3
    cases e1;cases e3
    have:y=z:=by
     have e4':(dW w)[j]?=some z:=e4
     rw [e2]at e4';cases e4';rfl
    subst this
    have hy:=List.mem_of_getElem? e2
    simp only [dW,List.mem_cons,List.not_mem_nil,or_false]at hy
    rcases hy with rfl | rfl<;>exact .und _ aV
 rw [cN]
 by_cases hl:l=[]
 ·subst hl;exact this
 ·rw [if_neg hl];rwa [if_neg (by simpa using hl)]at this
theorem Sv.frzI {v:AV} {l:List Int} (h:Sv c q n o v 1 (l.map qR)) (hm:∀ id,c id=q->m<=id):Frz ⟨n,low,o⟩ m v (iN l):=by
 have:=TH (low:=low) (ts:=l.map pI) h hm (by simp) (fun x hx=>by obtain ⟨y,_,rfl⟩:=List.mem_map.1 hx;rfl) (fun x hx=>by obtain ⟨y,_,rfl⟩:=List.mem_map.1 hx;rfl) fun i j x y t z e1 e2 e3 e4=>by
  rw [List.getElem?_map]at e1 e3
  cases hl:l[i]? with
  | none=>rw [hl]at e1;cases e1
  | some w=>
    rw [hl]at e1 e3
    cases e1;cases e3
    have:y=z:=by
     have e4':(qR w)[j]?=some z:=e4
     rw [e2]at e4';cases e4';rfl
    subst this
    have hy:=List.mem_of_getElem? e2
    simp only [qR,List.mem_cons,List.not_mem_nil,or_false]at hy
    subst hy;exact .und _ aV
 rw [iN]
 by_cases hl:l=[]
 ·subst hl;exact this
 ·rw [if_neg hl];rwa [if_neg (by simpa using hl)]at this
theorem FrS.frz {cs:List AV} {f:Fr} (h:FrS c q n o cs f) (hm:∀ id,c id=q->m<=id) (j:Nat) (y z:AV) (h1:cs[j]?=some y) (h2:(PE f)[j]?=some z):Frz ⟨n,low,o⟩ m y z:=by
 obtain ⟨e,v,rfl,he,hv⟩:=h
 match j with
 | 0=>cases h1;cases h2;exact .und _ aV
 | 1=>cases h1;cases h2;exact he.frzV hm
 | 2=>cases h1;cases h2;exact hv.frzV hm
 | j+3=>simp at h1
theorem aKb {v:AV} {css:List (List AV)} {l:List Fr} (h:Sv c q n o v 3 css) (hl:L2 (FrS c q n o) css l) (hm:∀ id,c id=q->m<=id):Frz ⟨n,low,o⟩ m v (jK l):=by
 have:=TH (low:=low) (ts:=(l.map PE).map .agg) h hm (by simp [hl.len]) (hl.all fun _ _ h=>h.len) (fun x hx=>by
  obtain ⟨y,hy,rfl⟩:=List.mem_map.1 hx
  obtain ⟨f,_,rfl⟩:=List.mem_map.1 hy;rfl) fun i j x y t z e1 e2 e3 e4=>by
  rw [List.getElem?_map,List.getElem?_map]at e3
  cases hi:l[i]? with
  | none=>rw [hi]at e3;cases e3
  | some f=>
    rw [hi]at e3
    cases e3
    exact (hl.get i x f e1 hi).frz hm j y z e2 e4
 rw [jK]
 by_cases h0:l=[]
 ·subst h0;exact this
 ·rw [if_neg h0];rwa [if_neg (by simpa using h0)]at this
theorem ObS.frz {cs:List AV} {b:Ob} (h:ObS c q n o cs b) (hm':∀ id,c id=q+1->m<=id) (hm:∀ id,c id=q->m<=id) (j:Nat) (y z:AV) (h1:cs[j]?=some y) (h2:(obC b)[j]?=some z):Frz ⟨n,low,o⟩ m y z:=by
 obtain ⟨v,f,rfl,hv,css,hf,hl⟩:=h
 match j with
 | 0=>cases h1;cases h2;exact .und _ aV
 | 1=>cases h1;cases h2;exact .und _ aV
 | 2=>cases h1;cases h2;exact hv.frzV hm'
 | 3=>cases h1;cases h2;exact aKb hf hl hm
 | j+4=>simp at h1
theorem aAk {v:AV} {css:List (List AV)} {l:List Ob} (h:Sv c q n o v 4 css) (hl:LO c n o 0 css l) (hm:∀ id,c id=q->m<=id) (hm':∀ id,11<=c id->m<=id):Frz ⟨n,low,o⟩ m v (wC l):=by
 have:=TH (low:=low) (ts:=(l.map obC).map .agg) h hm (by simp [hl.len]) hl.all (fun x hx=>by
  obtain ⟨y,hy,rfl⟩:=List.mem_map.1 hx
  obtain ⟨f,_,rfl⟩:=List.mem_map.1 hy;rfl) fun i j x y t z e1 e2 e3 e4=>by
  rw [List.getElem?_map,List.getElem?_map]at e3
  cases hi:l[i]? with
  | none=>rw [hi]at e3;cases e3
  | some f=>
    rw [hi]at e3
    cases e3
    exact (hl.get i x f e1 hi).frz (fun id h=>hm' id (by omega)) (fun id h=>hm' id (by omega)) j y z e2 e4
 rw [wC]
 by_cases h0:l=[]
 ·subst h0;exact this
 ·rw [if_neg h0];rwa [if_neg (by simpa using h0)]at this
end
theorem aFq (a:AV) (sc:Sc) (h:IsSc a sc):Abs.Returns Try.prog 17 [a] (VN (eD sc)):=by
 refine fS (fun x hx=>by simp at hx;subst hx;exact h.under.und) ?_
 obtain ⟨S,r,⟨n,low,o,c,rfl,h1,h2,h3,h4,vO,vT,vU,vI,css,rfl,hO,hl,hT,hU,hI⟩,hs⟩:=LA 0 0 .leaf a sc h
 have h4':∀ q,q≠0->∀ id,c id=q->0<=id:=fun _ _ _ _=>Nat.zero_le _
 exact hs _ none (nX (Nat.zero_le _) (.agg _ _ rfl (bS (aAk hO hl (h4' 6 (by omega)) (fun _ _=>Nat.zero_le _)) (bS (hT.frzI (h4' 8 (by omega))) (bS (hU.frzV (h4' 9 (by omega))) (bS (hI.frzI (h4' 10 (by omega))) (bS (.und _ aV) jX)))))))
theorem qS (n:Nat):cS (pF n)=true:=by
 have:=TF n
 simp only [cS,iU,Bool.and_eq_true,decide_eq_true_eq];exact this
theorem BS {n m:Nat} (hn:n<65536) (hm:0<m) (hm':m<=40):dF (gY n m)=true/\lG (m:Nat) (gY n m)=true:=by
 have hlt:=Nat.mod_lt (n/7) hm
 unfold gY
 split
 ·simp only [dF,lG,iU];simp;omega
 ·split
  ·simp [dF,lG]
  ·split
   ·simp only [dF,lG,iU];simp;omega
   ·split
    ·generalize n/7%m=r at *
     simp only [dF,lG,iU];simp;omega
    ·simp [dF,lG,qS]
def obGood (m j:Nat) (o:Ob):Prop:=1<=o.form/\o.form<=6/\cS o.n=true/\o.vals.length<=j/\(∀ v∈o.vals,dF v=true/\lG (m:Nat) v=true)/\o.frs.length<=j/\∀ f∈o.frs,iU f.node 0 1073741824=true/\f.env.length<=j/\f.vals.length<=j/\(∀ v∈f.env,dF v=true/\lG (m:Nat) v=true)/\∀ v∈f.vals,dF v=true/\lG (m:Nat) v=true
theorem VM {m j x:Nat} {o:Ob} (hx:x<65536) (hm:0<m) (hm':m<=40) (h:obGood m j o):obGood m (j+1) (lD m j x o):=by
 obtain ⟨h1,h2,h3,h4,h5,h6,h7⟩:=h
 have hx2:=BS (n:=x/2) (by omega) hm hm'
 have hsn:∀ (l:List eA) (v:eA),(∀ w∈l,dF w=true/\lG (m:Nat) w=true)->(dF v=true/\lG (m:Nat) v=true)->∀ w∈l++[v],dF w=true/\lG (m:Nat) w=true:=fun l v hl hv w hw=>by
  rcases List.mem_append.1 hw with hw | hw
  ·exact hl w hw
  ·simp at hw;subst hw;exact hv
 unfold lD
 split
 ·exact ⟨h1,h2,qS x,by show _<=_;simp only;omega,h5,by show _<=_;simp only;omega,fun f hf=>by
   obtain ⟨k1,k2,k3,k4,k5⟩:=h7 f hf
   exact ⟨k1,by omega,by omega,k4,k5⟩⟩
 split
 ·refine ⟨h1,h2,h3,by show _<=_;simp only;omega,h5,by simp only [List.length_append,List.length_cons,List.length_nil];omega,fun f hf=>?_⟩
  rcases List.mem_append.1 hf with hf | hf
  ·obtain ⟨k1,k2,k3,k4,k5⟩:=h7 f hf
   exact ⟨k1,by omega,by omega,k4,k5⟩
  ·simp at hf;subst hf
   refine ⟨by simp only [iU];simp;omega,Nat.zero_le _,Nat.zero_le _,fun v hv=>(nomatch hv),fun v hv=>(nomatch hv)⟩
 split
 ·exact ⟨h1,h2,h3,by simp only [List.length_append,List.length_cons,List.length_nil];omega,hsn _ _ h5 (BS hx hm hm'),by show _<=_;simp only;omega,fun f hf=>by
   obtain ⟨k1,k2,k3,k4,k5⟩:=h7 f hf
   exact ⟨k1,by omega,by omega,k4,k5⟩⟩
 have hon:∀ g:Fr->Fr,(∀ f,(iU f.node 0 1073741824=true/\f.env.length<=j/\f.vals.length<=j/\(∀ v∈f.env,dF v=true/\lG (m:Nat) v=true)/\∀ v∈f.vals,dF v=true/\lG (m:Nat) v=true)->(iU (g f).node 0 1073741824=true/\(g f).env.length<=j+1/\(g f).vals.length<=j+1/\(∀ v∈(g f).env,dF v=true/\lG (m:Nat) v=true)/\∀ v∈(g f).vals,dF v=true/\lG (m:Nat) v=true))->
  obGood m (j+1) ⟨o.form,o.n,o.vals,qP g o.frs⟩:=fun g hg=>by
  refine ⟨h1,h2,h3,by show _<=_;simp only;omega,h5,?_,fun f hf=>?_⟩
  ·show (qP g o.frs).length<=_
   unfold qP
   split
   ·simp
   ·rw [List.length_append,List.length_dropLast];simp only [List.length_cons,List.length_nil];omega
  ·have hf:f∈qP g o.frs:=hf
   unfold qP at hf
   split at hf
   ·cases hf
   ·rename_i x hx
    rcases List.mem_append.1 hf with hf | hf
    ·obtain ⟨k1,k2,k3,k4,k5⟩:=h7 f (List.dropLast_subset _ hf)
     exact ⟨k1,by omega,by omega,k4,k5⟩
    ·simp at hf;subst hf
     exact hg x (h7 x (List.mem_of_getLast? hx))
 split
 ·refine hon _ fun f ⟨k1,k2,k3,k4,k5⟩=>⟨k1,by simp only [iO,List.length_append,List.length_cons,List.length_nil];omega,by simp only [iO];omega,hsn _ _ k4 hx2,k5⟩
 ·refine hon _ fun f ⟨k1,k2,k3,k4,k5⟩=>⟨k1,by simp only [iP];omega,by simp only [iP,List.length_append,List.length_cons,List.length_nil];omega,k4,hsn _ _ k5 hx2⟩
theorem TI {m:Nat} (hm:0<m) (hm':m<=40):∀ (l:List Nat) (j:Nat) (o:Ob),(∀ x∈l,x<65536)->obGood m j o->obGood m (j+l.length) (HW m j l o)
 | [],j,o,_,h=>h
 | x::l,j,o,hx,h=>by
   have:=TI hm hm' l (j+1) (lD m j x o) (fun y hy=>hx y (List.mem_cons_of_mem _ hy)) (VM (hx x (List.mem_cons_self ..)) hm hm' h)
   rw [List.length_cons,show j+(l.length+1)=j+1+l.length by omega];exact this
theorem aFr {m:Nat} {o:Ob} (h:obGood m 20 o):sE (m:Nat) o=true:=by
 obtain ⟨h1,h2,h3,h4,h5,h6,h7⟩:=h
 have hv:∀ l:List eA,l.length<=20->(∀ v∈l,dF v=true/\lG (m:Nat) v=true)->eF l=true/\yM (m:Nat) l=true:=fun l hl hv=>by
  refine ⟨?_,List.all_eq_true.2 fun v h=>(hv v h).2⟩
  simp only [eF,Bool.and_eq_true,decide_eq_true_eq]
  exact ⟨by omega,List.all_eq_true.2 fun v h=>(hv v h).1⟩
 have e1:=hv _ h4 h5
 have e2:∀ f∈o.frs,nP f=true/\PP (m:Nat) f=true:=fun f hf=>by
  obtain ⟨k1,k2,k3,k4,k5⟩:=h7 f hf
  have a1:=hv _ k2 k4
  have a2:=hv _ k3 k5
  exact ⟨by simp only [nP,k1,a1.1,a2.1,Bool.and_self],by simp only [PP,a1.2,a2.2,Bool.and_self]⟩
 have e3:iU o.form 1 6=true:=by simp only [iU,Bool.and_eq_true,decide_eq_true_eq];exact ⟨h1,h2⟩
 have e4:zV o.frs=true:=by
  simp only [zV,Bool.and_eq_true,decide_eq_true_eq]
  exact ⟨by omega,List.all_eq_true.2 fun f hf=>(e2 f hf).1⟩
 have e5:o.frs.all (PP (m:Nat))=true:=List.all_eq_true.2 fun f hf=>(e2 f hf).2
 simp only [sE,gV,jD,e1.1,e1.2,e3,e4,e5,h3,Bool.and_self]
theorem LB:∀ (l:List (Nat × Nat)) (i:Nat),(oO i l).length<=l.length/\∀ v∈oO i l,mB v=true
 | [],_=>⟨Nat.le_refl _,fun _ h=>nomatch h⟩
 | x::l,i=>by
   obtain ⟨h1,h2⟩:=LB l (i+1)
   rw [oO]
   split
   ·refine ⟨by simp only [List.length_cons];omega,fun v hv=>?_⟩
    rcases List.mem_cons.1 hv with rfl | hv
    ·simp only [mB,qS,Bool.and_self]
    ·exact h2 v hv
   ·exact ⟨by simp only [List.length_cons];omega,h2⟩
theorem TJ:∀ (l:List (Nat × Nat)) (i:Nat),(wB i l).length<=l.length/\∀ v∈wB i l,cS v=true
 | [],_=>⟨Nat.le_refl _,fun _ h=>nomatch h⟩
 | x::l,i=>by
   obtain ⟨h1,h2⟩:=TJ l (i+1)
   rw [wB]
   split
   ·exact ⟨by simp only [List.length_cons];omega,h2⟩
   ·refine ⟨by simp only [List.length_cons];omega,fun v hv=>?_⟩
    rcases List.mem_cons.1 hv with rfl | hv
    ·exact qS _
    ·exact h2 v hv
def aKc (s:Sc):Prop:=(∀ l∈s.objs,∀ n∈l,n<65536)/\s.used<65536
theorem IsSc.ok {a:AV} {s:Sc} (h:IsSc a s):aKc s:=by
 obtain ⟨os,ts,us,xs,rfl,h1,h2,h3,_,_,_,_,h4⟩:=h
 refine ⟨fun l hl n hn=>?_,h4⟩
 obtain ⟨i,hi,rfl⟩:=List.mem_iff_getElem.1 hl
 have:=(h3 i hi).2
 rw [aT hi]at this
 exact this n hn
theorem GB {s:Sc} (h:aKc s):mL (eD s)=true:=by
 obtain ⟨h1,h2⟩:=h
 have hl:((s.objs.take 40).map (uT (min s.objs.length 40))).length=min s.objs.length 40:=by rw [List.length_map,List.length_take];omega
 have hob:∀ o∈(s.objs.take 40).map (uT (min s.objs.length 40)),sE ((min s.objs.length 40:Nat):Int) o=true:=fun o ho=>by
  obtain ⟨l,hl,rfl⟩:=List.mem_map.1 ho
  have hm:l∈s.objs:=List.mem_of_mem_take hl
  have hpos:0<s.objs.length:=List.length_pos_of_mem hm
  have hg:=TI (m:=min s.objs.length 40) (by omega) (by omega) (l.take 20) 0 ⟨((1+(l.take 20).length%6:Nat):Int),0,[],[]⟩ (fun x hx=>h1 l hm x (List.mem_of_mem_take hx)) ⟨by simp only;omega,by simp only;omega,rfl,Nat.le_refl _,fun v hv=>(nomatch hv),Nat.le_refl _,fun f hf=>(nomatch hf)⟩
  refine aFr ?_
  have hlen:(l.take 20).length<=20:=by rw [List.length_take];omega
  obtain ⟨k1,k2,k3,k4,k5,k6,k7⟩:=hg
  rw [Nat.zero_add]at k4 k6
  refine ⟨k1,k2,k3,Nat.le_trans k4 hlen,k5,Nat.le_trans k6 hlen,fun f hf=>?_⟩
  obtain ⟨q1,q2,q3,q4⟩:=k7 f hf
  exact ⟨q1,by omega,by omega,q4⟩
 have hT:(qQ (min s.objs.length 40) s.tasks).length<=40/\∀ t∈qQ (min s.objs.length 40) s.tasks,iU t 0 ((((min s.objs.length 40):Nat):Int)-1)=true:=by
  unfold qQ
  split
  ·exact ⟨Nat.zero_le _,fun t h=>nomatch h⟩
  ·rename_i h0
   refine ⟨by rw [List.length_map,List.length_take];omega,fun t ht=>?_⟩
   obtain ⟨x,_,rfl⟩:=List.mem_map.1 ht
   have:=Nat.mod_lt x (show 0<min s.objs.length 40 by omega)
   simp only [iU,Bool.and_eq_true,decide_eq_true_eq];omega
 obtain ⟨u1,u2⟩:=LB (s.outs.take 40) 0
 obtain ⟨i1,i2⟩:=TJ (s.outs.take 40) 0
 rw [List.length_take]at u1 i1
 have e1:(eD s).objs.length=min s.objs.length 40:=hl
 have a1:decide ((eD s).objs.length<=120)=true:=decide_eq_true (by rw [e1];omega)
 have a2:decide ((eD s).tasks.length<=120)=true:=decide_eq_true (Nat.le_trans hT.1 (by omega))
 have a3:decide ((eD s).outs.length<=100)=true:=decide_eq_true (Nat.le_trans u1 (by omega))
 have a4:decide ((eD s).ins.length<=50)=true:=decide_eq_true (Nat.le_trans i1 (by omega))
 have a5:iU ((s.used:Nat):Int) 0 1073741824=true:=by simp only [iU,Bool.and_eq_true,decide_eq_true_eq];omega
 have a5:iU (eD s).used 0 1073741824=true:=a5
 have a6:(eD s).objs.all (sE (eD s).objs.length)=true:=by rw [e1];exact List.all_eq_true.2 hob
 have a7:((eD s).tasks.all fun t=>iU t 0 (((eD s).objs.length:Int)-1))=true:=by rw [e1];exact List.all_eq_true.2 hT.2
 have a8:(eD s).outs.all mB=true:=List.all_eq_true.2 u2
 have a9:(eD s).ins.all cS=true:=List.all_eq_true.2 i2
 unfold mL
 simp only [a1,a2,a3,a4,a5,a6,a7,a8,a9,Bool.and_self]
end
end Go.Proofs.Ytajngkkihadgfaa
/-
 The law's scenes,as arguments.
-/
namespace Go.Proofs.Ytajngkkihadgfaa
open Go.Abs Go Go.Abs.TryF
noncomputable section
set_option maxRecDepth 100000
theorem aAl:tyK Try.prog 5=some none:=by kernel_rfl
theorem aKd:Try.prog.underlying 5=some (.int .u8):=by kernel_rfl
theorem PM:tyK Try.prog 43=some none:=by kernel_rfl
theorem aKe:Try.prog.underlying 43=some (.int .u16):=by kernel_rfl
theorem aIw:tyK Try.prog 46=some none:=by kernel_rfl
theorem aIx:Try.prog.underlying 46=some (.slice 43):=by kernel_rfl
theorem aKf:Try.prog.underlying 41=some (.slice 46):=by kernel_rfl
theorem aKg:Try.prog.underlying 33=some (.slice 5):=by kernel_rfl
theorem aKh:Try.prog.underlying 42=some (.slice 94):=by kernel_rfl
theorem aNg:tyK Try.prog 94=some (some 2):=by kernel_rfl
theorem aNh:Try.prog.underlying 94=some (.array 2 43):=by kernel_rfl
theorem flS:aBx Try.prog 45=some [(41,some none,0),(33,some none,1),(42,some none,2),(43,some none,3)]:=by kernel_rfl
theorem LC {P:Program} {d n:Nat} {t e:TypeId} {k:Option Nat} {cs:List AV} (hu:P.underlying t=some (.array n e)) (hk:tyK P e=some k) (h:Shape P (d+1) t cs):∀ i,i<n->Shape P d e (aG cs (i*kE k) (kE k)):=by
 simp only [Shape,hu]at h
 obtain ⟨k',hk',h⟩:=h
 rw [hk]at hk'
 cases hk'
 exact h
theorem BT {d:Nat} {x:List AV} (h:Shape Try.prog (d+1) 43 x):∃ n:Nat,qD none x=mS n/\n<65536:=by
 obtain ⟨n,rfl,hn⟩:=GU aKe (by decide) h
 have:IntKind.u16.max=65535:=by decide
 exact ⟨n,rfl,by omega⟩
theorem aIy {d:Nat} {x:List AV} (h:Shape Try.prog (d+1) 5 x):∃ n:Nat,x=[.int .u8 (n:Nat)]/\n<256:=by
 obtain ⟨n,rfl,hn⟩:=GU aKd (by decide) h
 have:IntKind.u8.max=255:=by decide
 exact ⟨n,rfl,by omega⟩
theorem aKi {d:Nat} {a:AV} (h:Shape Try.prog (d+2) 46 [a]):∃ l:List Nat,Sl a (l.map mS)/\∀ n∈l,n<65536:=by
 obtain ⟨b,l,e,h1,h2⟩:=shape_slice (f:=mS) (p:=fun n=>n<65536) (d:=d+1) aIx PM (fun x h1 _ _=>BT h1) h
 cases e
 exact ⟨l,h1,h2⟩
theorem aFs {d:Nat} {x:List AV} (h:Shape Try.prog (d+2) 94 x) (hl:x.length=2):∃ v:Nat × Nat,qD (some 2) x=PL v/\v.1<65536/\v.2<65536:=by
 have hs:=LC aNh PM h
 match x,hl with
 | [a,b],_=>
   obtain ⟨n,en,hn⟩:=BT (hs 0 (by omega))
   obtain ⟨m,em,hm⟩:=BT (hs 1 (by omega))
   have e1:a=mS n:=en
   have e2:b=mS m:=em
   subst e1;subst e2
   exact ⟨(n,m),rfl,hn,hm⟩
theorem aNi {d:Nat} {x:List AV} (h:Shape Try.prog (d+4) 45 x) (hl:x.length=4):∃ sc,IsSc (.agg x) sc:=by
 have hs:=II flS h
 obtain ⟨k1,e1,h1⟩:=hs _ (List.mem_cons_self ..)
 obtain ⟨k2,e2,h2⟩:=hs _ (List.mem_cons_of_mem _ (List.mem_cons_self ..))
 obtain ⟨k3,e3,h3⟩:=hs _ (List.mem_cons_of_mem _ (List.mem_cons_of_mem _ (List.mem_cons_self ..)))
 obtain ⟨k4,e4,h4⟩:=hs _ (List.mem_cons_of_mem _ (List.mem_cons_of_mem _ (List.mem_cons_of_mem _ (List.mem_cons_self ..))))
 cases e1
 cases e2
 cases e3
 cases e4
 match x,hl with
 | [a,b,c,u],_=>
   obtain ⟨_,ys,ea,hos,hys⟩:=shape_slice (f:=id) (p:=fun y=>∃ l:List Nat,Sl y (l.map mS)/\∀ n∈l,n<65536) (d:=d+2) aKf aIw (fun x h1 h2 _=>by
    match x,h2 with
    | [y],_=>exact ⟨y,rfl,aKi h1⟩) (show Shape Try.prog (d+2+1) 41 [a] from h1)
   obtain ⟨_,ts,eb,hts,htb⟩:=shape_slice (f:=encB) (p:=fun n=>n<256) (d:=d+2) aKg aAl (fun x h1 _ _=>by
    obtain ⟨n,rfl,hn⟩:=aIy h1
    exact ⟨n,rfl,hn⟩) (show Shape Try.prog (d+2+1) 33 [b] from h2)
   obtain ⟨_,us,ec,hus,hub⟩:=shape_slice (f:=PL) (p:=fun v=>v.1<65536/\v.2<65536) (d:=d+2) aKh aNg (fun x h1 h2 _=>aFs h1 h2) (show Shape Try.prog (d+2+1) 42 [c] from h3)
   obtain ⟨n,en,hn⟩:=BT (show Shape Try.prog (d+2+1) 43 [u] from h4)
   have en:u=mS n:=en
   cases ea
   cases eb
   cases ec
   subst en
   rw [List.map_id]at hos
   have hch:∀ l:List AV,(∀ y∈l,∃ m:List Nat,Sl y (m.map mS)/\∀ n∈m,n<65536)->∃ os:List (List Nat),l.length=os.length/\∀ i,i<os.length->Sl (l.getD i .top) ((os.getD i []).map mS)/\∀ n∈os.getD i [],n<65536:=by
    intro l
    induction l with
    | nil=>intro _;exact ⟨[],rfl,fun i hi=>absurd hi (by simp)⟩
    | cons y l ih=>
      intro h
      obtain ⟨m,hm⟩:=h y (List.mem_cons_self ..)
      obtain ⟨os,h1,h2⟩:=ih fun z hz=>h z (List.mem_cons_of_mem _ hz)
      refine ⟨m::os,by simp [h1],fun i hi=>?_⟩
      cases i with
      | zero=>exact hm
      | succ i=>exact h2 i (by simpa using hi)
   obtain ⟨objs,ho1,ho2⟩:=hch ys hys
   exact ⟨⟨objs,ts,us,n⟩,_,_,_,ys,rfl,hos,ho1,ho2,hts,htb,hus,hub,hn⟩
end
end Go.Proofs.Ytajngkkihadgfaa
/-
 The abstract machine: a pure call's contract on a frozen value holds for a value in the store that reads so.
-/
namespace Go.Abs
noncomputable section
variable {P:Program}
def GC (w:World):Sg:=⟨fun b off=>w.cell? ⟨b,off,none⟩,fun _ _=>none⟩
theorem aKj {σ:Sg} {S:Sto} {w:World} (hrel:Rel σ S w) {v v':AV} (hf:Frz S 0 v v'):∀ V,VR σ v V->VR (GC w) v' V:=by
 have hle:(σ.cut 0).le (GC w):=⟨fun id g x hx=>(by
  have:(σ.cut 0).s id g=some x:=hx
  simp only [Sg.cut]at this
  rw [if_neg (by omega)]at this;cases this),fun b off V hV=>(hrel.mu b off V hV).1⟩
 induction hf with
 | und v hu=>exact fun V hV=>(hu σ V hV).mono hle
 | agg l l' hl _ ih=>
   intro V hV
   cases hV with
   | agg _ ys e1 e2=>
     refine .agg _ _ (by rw [<-hl];exact e1) fun i y Y g1 g2=>?_
     have hi:i<l.length:=by rw [hl];exact (List.getElem?_eq_some_iff.1 g1).1
     exact ih i l[i] y (List.getElem?_eq_getElem hi) g1 Y (e2 i _ Y (List.getElem?_eq_getElem hi) g2)
 | tuple l l' hl _ ih=>
   intro V hV
   cases hV with
   | tuple _ ys e1 e2=>
     refine .tuple _ _ (by rw [<-hl];exact e1) fun i y Y g1 g2=>?_
     have hi:i<l.length:=by rw [hl];exact (List.getElem?_eq_some_iff.1 g1).1
     exact ih i l[i] y (List.getElem?_eq_getElem hi) g1 Y (e2 i _ Y (List.getElem?_eq_getElem hi) g2)
 | func f a a' c c' hla hlc _ _ iha ihc=>
   intro V hV
   cases hV with
   | func _ F _ _ A C hF e1 e2 e3 e4=>
     refine .func _ _ _ _ _ _ (by cases hF;exact .func f) (by rw [<-hla];exact e1) (by rw [<-hlc];exact e2) (fun i y Y g1 g2=>?_) (fun i y Y g1 g2=>?_)
     ·have hi:i<a.length:=by rw [hla];exact (List.getElem?_eq_some_iff.1 g1).1
      exact iha i a[i] y (List.getElem?_eq_getElem hi) g1 Y (e3 i _ Y (List.getElem?_eq_getElem hi) g2)
     ·have hi:i<c.length:=by rw [hlc];exact (List.getElem?_eq_some_iff.1 g1).1
      exact ihc i c[i] y (List.getElem?_eq_getElem hi) g1 Y (e4 i _ Y (List.getElem?_eq_getElem hi) g2)
 | sl id g off len cap m k c l a hid hg hl hm hk ha _ ih=>
   intro V hV
   cases hV with
   | sl _ _ _ _ _ b base sz C hsg hlen hcap=>
     obtain ⟨b',base',sz',o,g1,g2,g3⟩:=hrel.obj id _ hg
     have g1':σ id g=some (b',base',sz'):=g1
     rw [hsg]at g1'
     obtain ⟨rfl,rfl,rfl⟩:b=b'/\base=base'/\sz=sz':=by simpa using g1'
     cases g3 with
     | cells _ _ _ arr el fr q1 q2 q3 q4=>
       have hcell:∀ j,j<m->w.cell? ⟨b,base+j,none⟩=arr[base+j]?:=fun j hj=>by simp [World.cell?,g2]
       have hin:∀ i j,i<l.length->j<k->off+i*k+j<m:=by
        intro i j hi hj
        have:i*k+k<=len*k:=by
         rw [<-Nat.succ_mul];exact Nat.mul_le_mul_right k (by omega)
        omega
       subst hl
       refine .fz l false (some ⟨b,base+off,none⟩) C b (base+off) k (fun _=>rfl) hlen (fun hc=>by cases hc) hk (fun i j x y W e1 e2 e3=>?_) (fun i j hi hj=>?_)
       ·have hi:=(List.getElem?_eq_some_iff.1 e1).1
        have hj:j<k:=by rw [<-hk x (List.mem_of_getElem? e1)];exact (List.getElem?_eq_some_iff.1 e2).1
        obtain ⟨W',e4,e5⟩:=q3 _ (a i j) (hin i j hi hj) (ha i j x y e1 e2)
        have e6:w.cell? ⟨b,base+off+i*k+j,none⟩=some W:=e3
        rw [show base+off+i*k+j=base+(off+i*k+j) by omega,hcell _ (hin i j hi hj),e4]at e6
        cases e6
        exact ih i j x y e1 e2 W e5
       ·show (w.cell? ⟨b,base+off+i*k+j,none⟩).isSome=true
        rw [show base+off+i*k+j=base+(off+i*k+j) by omega,hcell _ (hin i j hi hj)]
        have:=hin i j hi hj
        rw [Array.getElem?_eq_getElem (show base+(off+i*k+j)<arr.size by omega)];rfl
 | ptr id g off m c v a hid hg hm ha _ ih=>
   intro V hV
   cases hV with
   | ptr _ _ _ b base sz hsg=>
     obtain ⟨b',base',sz',o,g1,g2,g3⟩:=hrel.obj id _ hg
     have g1':σ id g=some (b',base',sz'):=g1
     rw [hsg]at g1'
     obtain ⟨rfl,rfl,rfl⟩:b=b'/\base=base'/\sz=sz':=by simpa using g1'
     cases g3 with
     | cells _ _ _ arr el fr q1 q2 q3 q4=>
       have hcell:∀ j,j<m->w.cell? ⟨b,base+j,none⟩=arr[base+j]?:=fun j hj=>by simp [World.cell?,g2]
       refine .pf v b (base+off) (fun j y W e2 e3=>?_) (fun j hj=>?_)
       ·have hj:=(List.getElem?_eq_some_iff.1 e2).1
        obtain ⟨W',e4,e5⟩:=q3 _ (a j) (by omega) (ha j y e2)
        have e6:w.cell? ⟨b,base+off+j,none⟩=some W:=e3
        rw [show base+off+j=base+(off+j) by omega,hcell _ (by omega),e4]at e6
        cases e6
        exact ih j y e2 W e5
       ·show (w.cell? ⟨b,base+off+j,none⟩).isSome=true
        rw [show base+off+j=base+(off+j) by omega,hcell _ (by omega)]
        rw [Array.getElem?_eq_getElem (show base+(off+j)<arr.size by omega)];rfl
def LD (v:AV):Prop:=∀ (σ τ:Sg) V,VR σ v V->VR τ v V
theorem LE {l:List Nat}:LD (.str l):=fun _ _ _ h=>by cases h;rename_i hs;exact .str _ _ hs
theorem LF {k:IntKind} {n:Int}:LD (.int k n):=fun _ _ _ h=>by cases h;exact .int k n
theorem BU {l:List AV} (h:∀ x∈l,LD x):LD (.tuple l):=fun σ τ _ hv=>by
 cases hv with | tuple _ ys hl h1=>exact .tuple _ _ hl fun i x X e1 e2=>h x (List.mem_of_getElem? e1) σ τ X (h1 i x X e1 e2)
theorem PN {f:FuncId} {a a' v:AV} (h:Returns P f [a'] v) (hv:LD v) {s:Sto} (hf:Frz s 0 a a'):dZ P f [a] s (.ret v none):=by
 obtain ⟨hok,fn,hfn,hd⟩:=h .empty
 refine ⟨hok,fn,hfn,fun σ w A kd stk m hrel0 ha hstk hrm=>?_⟩
 have hrel:Rel (GC w) Sto.empty w:=
  {obj:=fun id x hx=>(by rw [Sto.empty_get]at hx;cases hx),inj:=fun id x id' x' b base sz base' sz' hx=>(by rw [Sto.empty_get]at hx;cases hx),
   mu:=fun b off V hV=>⟨hV,fun ⟨id,x,base,sz,hx,_⟩=>(by rw [Sto.empty_get]at hx;cases hx)⟩,
   bnd:=fun id g x hx=>(by cases hx),gen:=fun id x g y hx=>(by rw [Sto.empty_get]at hx;cases hx),top:=fun id _=>rfl}
 have hrm':RM (GC w) kd .no m:=by cases hrm with
  | normal m=>exact .normal m
  | quiet=>exact .quiet
 have ha':VRs (GC w) [a'] A.toList:=⟨ha.1,fun i x X h1 h2=>by
  cases i with
  | zero=>simp at h1;subst h1;exact aKj hrel0 hf X (ha.2 0 a X rfl h2)
  | succ i=>simp at h1⟩
 obtain ⟨τ,V,w',fr,m',q1,q2,q9,q3⟩:=hd (GC w) w A kd stk m hrel ha' hstk hrm'
 refine ⟨σ,V,w',fr,m',hv τ σ V q1,⟨q2.q,⟨fun _ _ _ h=>h,fun _ _ _ h=>h⟩,rfl,fun b off V hV=>.inl hV⟩,?_,q3⟩
 cases q9 with
 | normal m=>exact .normal _
 | quiet=>exact .quiet
end
end Go.Abs
