/-
  The reference of images: strings that are pages, and one page.
-/
import Derived.Test.YtpmccfnfikkkbaaGreatIh
import Derived.Test.YtpmccfnfikkkbaaGreatEp
set_option linter.unusedVariables false
set_option linter.unusedSimpArgs false
namespace Go.Proofs.YtpmccfnfikkkbaaGreat.I
open Go.Abs Go Go.Abs.TryzF
noncomputable section
set_option maxRecDepth 10000
def sF (s:List Nat):Bool:=decide (counted s≠0)
theorem tdiv32 {s:List Nat} (hs:s.length<9223372036854775808):IntKind.i64.wrap (Int.tdiv (s.length:Nat) 32)=((s.length/32:Nat):Int):=by
 rw [Int.tdiv_eq_ediv_of_nonneg (by omega),IntWalk.i64_in _ (by omega)];omega
theorem MU (s:List Nat) (hs:s.length<9223372036854775808):Abs.Returns Tryz.prog 69 [.str s] (.bool (sF s)):=by
 refine aF (L:=[ent 140 RZ]) (elist_cons rIn_ok.ent aE) aG (by kernel_rfl) Tryz.func69 Tryz.ntmps69 Tryz.results69 rfl rfl (aA bQ aD) aI ?_;have e1:=tdiv32 hs;have e2:Int.tmod ((s.length:Nat):Int) 32=((s.length%32:Nat):Int):=lL;simp +contextual +decide (maxSteps:=1000000) only [↓ wP,wQ,tf,ne_eq,e1,e2,RZ];unfold sF counted;by_cases h1:s.length%32=0
 ·have h1':((s.length%32:Nat):Int)=0:=by omega
  by_cases h2:256<s.length/32
  ·have:¬ (((s.length/32:Nat):Int)<=256):=by omega
   simp [kN,h1,h2];omega
  ·have h3:(((s.length/32:Nat):Int)<=256):=by omega
   by_cases h4:s.length/32=0
   ·simp [kN,h1,h4]
   ·simp [kN,h1,h2,h4]
    omega
 ·have h1':¬ ((s.length%32:Nat):Int)=0:=by omega
  simp [kN,h1];omega
def vF (s:List Nat) (i:Nat):AV:=if i<s.length/32 then .tuple [.str (bZ s i),.bool true] else .tuple [.str [],.bool false]
theorem aCu {s:List Nat} {i:Nat}:Und 0 (vF s i):=by
 unfold vF;split<;>exact eJ (aA bQ (aA aI aD))
theorem RB (s:List Nat) (i:Nat) (hs:s.length<9223372036854775808) (hi:i<4611686018427387904):Abs.Returns Tryz.prog 70 [.str s,.int .i64 (i:Nat)] (vF s i):=by
 refine aF (L:=[]) aE aG (by kernel_rfl) Tryz.func70 Tryz.ntmps70 Tryz.results70 rfl rfl (aA bQ (aA aO aD)) aCu ?_;have e1:=tdiv32 hs;by_cases h:i<s.length/32
 ·have d1:¬ (((s.length/32:Nat):Int)<=(i:Int)):=by omega
  have e2:IntKind.i64.wrap (32*(i:Int))=((i*32:Nat):Int):=by rw [IntWalk.i64_in _ (by omega)];omega
  have e3:IntKind.i64.wrap (32*((i+1:Nat):Int))=(((i+1)*32:Nat):Int):=by rw [IntWalk.i64_in _ (by omega)];omega
  have d5:=aY (i:=i) (by omega)
  have f1:(0:Int)<=((i*32:Nat):Int):=by omega
  have f2:((i*32:Nat):Int)<=(((i+1)*32:Nat):Int):=by omega
  have f3:(((i+1)*32:Nat):Int)<=(s.length:Nat):=by omega
  have f4:aM s (((i*32:Nat):Int)).toNat ((((i+1)*32:Nat):Int).toNat-(((i*32:Nat):Int)).toNat)=bZ s i:=by
   rw [Int.toNat_natCast,Int.toNat_natCast,bZ];congr 1;omega
  simp +contextual +decide (maxSteps:=1000000) only [↓ wP,wQ,tf,ne_eq,e1,e2,e3,d1,d5,f1,f2,f3,f4];rw [vF,if_pos h]
 ·have d1:(((s.length/32:Nat):Int)<=(i:Int)):=by omega
  simp +contextual +decide (maxSteps:=1000000) only [↓ wP,wQ,tf,ne_eq,e1,d1];rw [vF,if_neg h]
end
end Go.Proofs.YtpmccfnfikkkbaaGreat.I
/-
 The reference of images: patches.
-/
namespace Go.Proofs.YtpmccfnfikkkbaaGreat.I
open Go.Abs Go Go.Abs.TryzF
noncomputable section
set_option maxRecDepth 10000
def gH (a b:List Nat) (q:Nat):Bool:=!(decide (q<a.length/32)&&decide (bZ a q=bZ b q))
def patchTo (a b:List Nat) (i:Nat):List (Nat × List Nat):=((List.range i).filter (gH a b)).map fun q=>(q,bZ b q)
def sG (x:Nat × List Nat):List AV:=[.int .i64 (x.1:Nat),.str x.2]
theorem bM (a b:List Nat) (i:Nat):patchTo a b (i+1)=patchTo a b i++(if gH a b i then [(i,bZ b i)] else []):=by
 simp only [patchTo,List.range_succ,List.filter_append,List.map_append];cases h:gH a b i<;>simp [h]
theorem patchTo_len (a b:List Nat) (i:Nat):(patchTo a b i).length<=i:=by
 have:=List.length_filter_le (gH a b) (List.range i)
 simpa [patchTo] using this
def partsV (l:List (Nat × List Nat)):AV:=if l=[] then .nils else .fz ((l.map sG).map .agg) false
def patchV (a b:List Nat):AV:=if counted a=0∨counted b=0 then .tuple [.nils,.int .i64 2] else .tuple [partsV (patchTo a b (counted b)),.int .i64 0]
abbrev Str:={x:List Nat // x.length<9223372036854775808}
def L10:List lX:=[BL 69 (fun x:Str=>[.str x.1]) fun x=>.bool (sF x.1),BL 70 (fun x:Str × {i:Nat // i<4611686018427387904}=>[.str x.1.1,.int .i64 (x.2.1:Nat)]) fun x=>vF x.1.1 x.2.1]
theorem aOf:∀ x∈L10,dU Tryz.prog x:=elist_cons (qV fun x=>MU x.1 x.2) (elist_cons (qV fun x=>RB x.1.1 x.2.1 x.1.2 x.2.2) aE)
theorem aCv (s:List Nat) (hs:s.length<9223372036854775808) (u:Sto):bJ L10 69 [.str s] u=some (.ret (.bool (sF s)) none):=by
 rw [L10];refine entF_same (A:=fun x:Str=>[.str x.1]) ?_ ⟨s,hs⟩;rintro ⟨a,_⟩ ⟨b,_⟩ h;simp at h;subst h;rfl
theorem aCw (s:List Nat) (i:Nat) (hs:s.length<9223372036854775808) (hi:i<4611686018427387904) (u:Sto):bJ L10 70 [.str s,.int .i64 (i:Nat)] u=some (.ret (vF s i) none):=by
 rw [L10,BX (show (69:Nat)≠70 by decide)];refine entF_same (A:=fun x:Str × {i:Nat // i<4611686018427387904}=>[.str x.1.1,.int .i64 (x.2.1:Nat)]) ?_ (⟨s,hs⟩,⟨i,hi⟩);rintro ⟨⟨a,_⟩,⟨i,_⟩⟩ ⟨⟨b,_⟩,⟨j,_⟩⟩ h;simp at h;obtain ⟨rfl,h⟩:=h
 have:i=j:=by omega
 subst this;rfl
def Wp (m:Nat) (o:Tr AObj) (v:AV) (l:List (Nat × List Nat)):Prop:=(l=[]/\v=.nils)∨(l≠[]/\∃ id g,v=.sl id g 0 l.length (.room 2)/\o.get id=some (aW g (l.map sG).flatten)/\id<m)
theorem pQ (l:List (Nat × List Nat)):∀ x∈l.map sG,x.length=2:=fun x hx=>by obtain ⟨y,_,rfl⟩:=List.mem_map.1 hx;rfl
theorem oL {s:List Nat} (h:counted s≠0):s.length/32=counted s/\counted s<=256:=by
 unfold counted at *;split at h
 ·exact absurd rfl h
 ·rename_i h';rw [if_neg h'];omega
theorem refPatch_ok (a b:List Nat) (ha:a.length<9223372036854775808) (hb:b.length<9223372036854775808):Abs.Returns Tryz.prog 29 [.str a,.str b] (patchV a b):=by
 refine dZ (L:=L10) aOf aG (by kernel_rfl) Tryz.func29 Tryz.ntmps29 Tryz.results29 rfl rfl (aA bQ (aA bQ aD)) ?_;have wa:=aCv a ha;have wb:=aCv b hb;by_cases h0:counted a=0∨counted b=0
 ·have e0:patchV a b=.tuple [.nils,.int .i64 2]:=by rw [patchV,if_pos h0]
  rw [e0]
  cases hwa:sF a<;>cases hwb:sF b<;>simp only [hwa,hwb]at wa wb<;>
   simp +contextual +decide (maxSteps:=1000000) only [↓ wP,wQ,ne_eq,wa,wb]
  ·exact .und _ (eJ (aA dH (aA aO aD)))
  ·exact .und _ (eJ (aA dH (aA aO aD)))
  ·exact .und _ (eJ (aA dH (aA aO aD)))
  ·simp [sF]at hwa hwb;omega
 ·have hwa:sF a=true:=by simp only [sF];simp;omega
  have hwb:sF b=true:=by simp only [sF];simp;omega
  rw [hwa]at wa;rw [hwb]at wb;simp +contextual +decide (maxSteps:=1000000) only [↓ wP,wQ,ne_eq,wa,wb];have hca:=oL (s:=a) (by omega);have hcb:=oL (s:=b) (by omega);have eb:=tdiv32 hb;rw [hcb.1]at eb
  refine aN (fun i e=>∃ t m low o v,e=⟨53,none,29,t,[],⟨m,low,o⟩,.no⟩/\t.val 0=.str a/\t.val 1=.str b/\t.val 6=v/\t.val 7=.int .i64 (i:Nat)/\Wp m o v (patchTo a b i)/\i<=counted b) (fun i=>counted b-i) 0
   ⟨_,0,_,_,.nils,rfl,by simp +decide only [↓ aB,bN,aZ],by simp +decide only [↓ aB,bN,aZ],by simp +decide only [↓ aB],by simp +decide only [↓ aB];rfl,.inl ⟨rfl,rfl⟩,Nat.zero_le _⟩ ?_
  rintro i _ ⟨t,m,low,o,v,rfl,t0,t1,t6,t7,hv,hi⟩;by_cases hlt:i<counted b
  ·have d1:(i:Int)<(counted b:Nat):=by omega
   have d5:=aY (i:=i) (by omega);have cb:=aCw b i hb (by omega);have ca:=aCw a i ha (by omega);rw [vF,if_pos (by omega)]at cb;have hlen:(patchTo a b i).length<=i:=patchTo_len a b i
   have hsmall:(2*((patchTo a b i).length+1)+1024)*24<=281474976710656/\(patchTo a b i).length+1<4611686018427387904:=⟨by omega,by omega⟩
   by_cases hia:i<a.length/32
   ·rw [vF,if_pos hia]at ca
    by_cases hpq:bZ a i=bZ b i
    ·have hdf:gH a b i=false:=by simp [gH,hia,hpq]
     simp +contextual +decide (maxSteps:=1000000) only [↓ wP,wQ,tf,ne_eq,t0,t1,t7,d1,d5,eb,ca,cb,jV,iP,hpq];exact ⟨i+1,by show _-_<_-_;omega,_,m,low,o,v,rfl,by simp +decide only [↓ aB,t0],by simp +decide only [↓ aB,t1],by simp +decide only [↓ aB,t6],by simp +decide only [↓ aB],by rw [bM,hdf];simpa using hv,hlt⟩
    ·have hdf:gH a b i=true:=by simp [gH,hpq]
     rcases hv with ⟨hL,rfl⟩ | ⟨hL,id,g,rfl,hid,hidm⟩
     ·simp +contextual +decide (maxSteps:=1000000) only [↓ wP,wQ,tf,Nat.reduceAdd,ne_eq,Nat.reduceMul,Nat.mul_one,Nat.zero_add,t0,t1,t6,t7,d1,d5,eb,ca,cb,jV,iP,dC,hpq]
      refine ⟨i+1,by show _-_<_-_;omega,_,m+1+1,_,_,.sl (m+1) 0 0 1 (.room 2),rfl,by simp +decide only [↓ aB,t0],by simp +decide only [↓ aB,t1],by simp +decide only [↓ aB],by simp +decide only [↓ aB],.inr ⟨?_,m+1,0,?_,?_,Nat.lt_succ_self _⟩,hlt⟩
      ·rw [bM,hdf];simp
      ·rw [bM,hdf,hL];rfl
      ·rw [bM,hdf,hL,Tr.get_set_same];rfl
     ·have f3:=bK hidm
      have hfl:((patchTo a b i).map sG).flatten.length=(patchTo a b i).length*2:=by rw [eL _ (pQ _),List.length_map]
      simp +contextual +decide (maxSteps:=1000000) only [↓ wP,wQ,tf,Nat.reduceAdd,ne_eq,Nat.reduceMul,Nat.zero_add,t0,t1,t6,t7,d1,d5,eb,ca,cb,jV,iP,dC,hpq,f3,hid,hsmall,hfl];refine ⟨i+1,by show _-_<_-_;omega,_,m+1,_,_,.sl id (g+1) 0 ((patchTo a b i).length+1) (.room 2),rfl,by simp +decide only [↓ aB,t0],by simp +decide only [↓ aB,t1],by simp +decide only [↓ aB],by simp +decide only [↓ aB],.inr ⟨?_,id,g+1,?_,?_,by omega⟩,hlt⟩
      ·rw [bM,hdf];simp
      ·rw [bM,hdf];simp
      ·rw [bM,hdf,Tr.get_set_same,if_pos rfl,List.map_append,List.flatten_append];rfl
   ·rw [vF,if_neg hia]at ca
    have hdf:gH a b i=true:=by simp [gH,hia]
    rcases hv with ⟨hL,rfl⟩ | ⟨hL,id,g,rfl,hid,hidm⟩
    ·simp +contextual +decide (maxSteps:=1000000) only [↓ wP,wQ,tf,Nat.reduceAdd,ne_eq,Nat.reduceMul,Nat.mul_one,Nat.zero_add,t0,t1,t6,t7,d1,d5,eb,ca,cb,iP,dC]
     refine ⟨i+1,by show _-_<_-_;omega,_,m+1+1,_,_,.sl (m+1) 0 0 1 (.room 2),rfl,by simp +decide only [↓ aB,t0],by simp +decide only [↓ aB,t1],by simp +decide only [↓ aB],by simp +decide only [↓ aB],.inr ⟨?_,m+1,0,?_,?_,Nat.lt_succ_self _⟩,hlt⟩
     ·rw [bM,hdf];simp
     ·rw [bM,hdf,hL];rfl
     ·rw [bM,hdf,hL,Tr.get_set_same];rfl
    ·have f3:=bK hidm
     have hfl:((patchTo a b i).map sG).flatten.length=(patchTo a b i).length*2:=by rw [eL _ (pQ _),List.length_map]
     simp +contextual +decide (maxSteps:=1000000) only [↓ wP,wQ,tf,Nat.reduceAdd,ne_eq,Nat.reduceMul,Nat.zero_add,t0,t1,t6,t7,d1,d5,eb,ca,cb,iP,dC,f3,hid,hsmall,hfl];refine ⟨i+1,by show _-_<_-_;omega,_,m+1,_,_,.sl id (g+1) 0 ((patchTo a b i).length+1) (.room 2),rfl,by simp +decide only [↓ aB,t0],by simp +decide only [↓ aB,t1],by simp +decide only [↓ aB],by simp +decide only [↓ aB],.inr ⟨?_,id,g+1,?_,?_,by omega⟩,hlt⟩
     ·rw [bM,hdf];simp
     ·rw [bM,hdf];simp
     ·rw [bM,hdf,Tr.get_set_same,if_pos rfl,List.map_append,List.flatten_append];rfl
  ·have d1:¬ (i:Int)<(counted b:Nat):=by omega
   have hib:i=counted b:=by omega
   subst hib;simp +contextual +decide (maxSteps:=1000000) only [↓ wP,wQ,tf,ne_eq,t1,t6,t7,d1,eb]
   have e0:patchV a b=.tuple [partsV (patchTo a b (counted b)),.int .i64 0]:=by rw [patchV,if_neg h0]
   rw [e0];refine .tuple _ _ rfl (eM ?_ (eM (.und _ aO) jD))
   rcases hv with ⟨hl,rfl⟩ | ⟨hl,id,g,rfl,hid,hk⟩
   ·rw [partsV,if_pos hl];exact .und _ dH
   ·rw [partsV,if_neg hl]
    refine qU (g:=g) (k:=2) (Nat.zero_le _) (by rw [Sto.get_mk hk];exact hid) (by simp) (pQ _) fun x hx y hy=>?_
    obtain ⟨z,_,rfl⟩:=List.mem_map.1 hx;simp only [sG,List.mem_cons,List.not_mem_nil,or_false]at hy
    rcases hy with rfl | rfl
    ·exact aO
    ·exact bQ
end
end Go.Proofs.YtpmccfnfikkkbaaGreat.I
/-
 Parts compared.
-/
namespace Go.Proofs.YtpmccfnfikkkbaaGreat.I
open Go.Abs Go Go.Abs.TryzF
noncomputable section
set_option maxRecDepth 10000
def aRx (P:Program) (t:TypeId):Option (List (TypeId × Nat)):=match P.underlying t with
 | some (.struct fs)=>bif P.stoodInHeld t||P.eqGuardType P.depth t then none else some (vW fs)
 | _=>none
theorem aOg:aRx Tryz.prog 87=some [(3,0),(9,1)]:=by kernel_rfl
theorem aUs:Tryz.prog.underlying 3=some (.int .i64):=by kernel_rfl
theorem aUt:Tryz.prog.underlying 9=some .string:=by kernel_rfl
theorem ty3:tyK Tryz.prog 3=some none:=by kernel_rfl
theorem ty9:tyK Tryz.prog 9=some none:=by kernel_rfl
theorem aCx {x y:Operand} {a b:Int} {p q:List Nat}:abin Tryz.prog .neq 87 x y (.agg [.int .i64 a,.str p]) (.agg [.int .i64 b,.str q])=some (.bool (!(decide (a=b)&&decide (p=q)))):=by
 have h:=aOg;unfold aRx at h;split at h
 ·rename_i fs hu
  cases hg:(Tryz.prog.stoodInHeld 87||Tryz.prog.eqGuardType Tryz.prog.depth 87) with
  | true=>rw [hg]at h;cases h
  | false=>
    rw [hg]at h
    have hfl:vW fs=[(3,0),(9,1)]:=by simpa using h
    simp only [Bool.or_eq_false_iff]at hg
    have h3:∀ d,FF Tryz.prog (d+1) 3 (.int .i64 a) (.int .i64 b)=some (decide (a=b)):=fun d=>by
     unfold FF;simp only [aUs];simp [dJ,uL]
    have h9:∀ d,FF Tryz.prog (d+1) 9 (.str p) (.str q)=some (decide (p=q)):=fun d=>by
     unfold FF;simp only [aUt];simp [EI]
    have hall:∀ d,FF Tryz.prog (d+1+1) 87 (.agg [.int .i64 a,.str p]) (.agg [.int .i64 b,.str q])=some (decide (a=b)&&decide (p=q)):=by
     intro d;unfold FF;simp only [hu,hg.1,cond_false,hfl];simp only [aeqs,mZ ty3,mZ ty9,ptK];have e1:=h3 d;have e2:=h9 d;by_cases hab:a=b
     ·subst hab
      simp [e1,e2];by_cases hpq:p=q<;>simp [hpq]
     ·simp [e1,hab]
    have key:FF Tryz.prog 10000 87 (.agg [.int .i64 a,.str p]) (.agg [.int .i64 b,.str q])=some (decide (a=b)&&decide (p=q)):=hall 9998;simp only [abin,nX,hg.2,key];rfl
 ·cases h
def partI (x:Int × List Nat):AV:=.agg [.int .i64 x.1,.str x.2]
theorem YF (x:Int × List Nat):(partI x).cells.length=2:=rfl
theorem und_partI {n:Nat} (l:List (Int × List Nat)):∀ x∈l.map partI,UnderE n x:=fun x hx=>by obtain ⟨a,_,rfl⟩:=List.mem_map.1 hx;exact ⟨2,rfl⟩
theorem sameParts_ok (a b:AV) (xs ys:List (Int × List Nat)) (ha:Sl a (xs.map partI)) (hb:Sl b (ys.map partI)):Abs.Returns Tryz.prog 8 [a,b] (.bool (decide (xs=ys))):=by
 have hla:=ha.2;have hlb:=hb.2;simp only [List.length_map]at hla hlb;refine aF (L:=[]) aE aG (by kernel_rfl) Tryz.func8 Tryz.ntmps8 Tryz.results8 rfl rfl (aA (lZ ha (und_partI _)).und (aA (lZ hb (und_partI _)).und aD)) aI ?_;have hc:(((xs.length:Nat):Int)=(ys.length:Nat))=(xs.length=ys.length):=propext (by omega);simp +contextual +decide (maxSteps:=1000000) only [↓ wP,wQ,tf,ne_eq,ha.len,hb.len,hc];refine ⟨fun h=>?_,fun h=>?_⟩
 ·rw [decide_eq_false];rintro rfl;exact h rfl
 refine aN (fun i e=>∃ t,e=⟨26,none,8,t,[],⟨0,0,.leaf⟩,.no⟩/\t.val 0=a/\t.val 1=b/\t.val 5=.int .i64 (i:Nat)/\i<=xs.length/\∀ j,j<i->xs.getD j default=ys.getD j default) (fun i=>xs.length-i) 0
  ⟨_,rfl,by simp +decide only [↓ aB,bN,aZ],by simp +decide only [↓ aB,bN,aZ],by simp +decide only [↓ aB];rfl,Nat.zero_le _,fun j hj=>by omega⟩ ?_
 rintro i _ ⟨t,rfl,h0,h1,h5,hi,hpre⟩;by_cases hlt:i<xs.length
 ·have d1:(i:Int)<(xs.length:Nat):=by omega
  have d2:(i:Int)<(ys.length:Nat):=by omega
  have d3:(0:Int)<=i:=by omega
  have d4:((i:Int)).toNat=i:=by omega
  have d5:=aY (i:=i) (by omega);simp +contextual +decide (maxSteps:=1000000) only [↓ wP,wQ,tf,Nat.reduceAdd,ne_eq,ha.len,ha.idx,hb.idx,h0,h1,h5,d1,d2,d3,d4,eF YF,partI,aCx,d5];refine ⟨fun hne=>?_,fun he=>⟨i+1,by show _-_<_-_;omega,_,rfl,by simp +decide only [↓ aB,h0],by simp +decide only [↓ aB,h1],by simp only [↓ aB],hlt,fun j hj=>?_⟩⟩
  ·rw [decide_eq_false];rintro rfl;simp at hne
  ·rcases Nat.lt_succ_iff_lt_or_eq.1 hj with hj | rfl
   ·exact hpre j hj
   ·simp only [Bool.and_eq_true,decide_eq_true_eq]at he
    exact Prod.ext he.1 he.2
 ·have d1:¬ (i:Int)<(xs.length:Nat):=by omega
  simp +contextual +decide (maxSteps:=1000000) only [↓ wP,wQ,tf,ne_eq,ha.len,h0,h5,d1];rw [decide_eq_true]
  exact GQ h fun j hj=>hpre j (by omega)
end
end Go.Proofs.YtpmccfnfikkkbaaGreat.I
/-
 Patches,by the program.
-/
namespace Go.Proofs.YtpmccfnfikkkbaaGreat.I
open Go.Abs Go Go.Abs.TryzF
noncomputable section
set_option maxRecDepth 10000
theorem aOh:mpK Tryz.prog 157=some (.i64,.agg (List.replicate 32 (.int .u8 0))):=by kernel_rfl
theorem YG {P:Program} {t:TypeId} {x y:Operand} {n:Nat} {k:IntKind} (h:aOu P t=some (n,k)) {xs ys:List Int} (hx:xs.length=n) (hy:ys.length=n):
 abin P .neq t x y (.agg (xs.map (.int k))) (.agg (ys.map (.int k)))=some (.bool (!decide (xs=ys))):=by
 unfold aOu at h;split at h
 ·rename_i m e hu
  split at h
  ·rename_i k' hk ht
   cases hg:P.eqGuardType P.depth t with
   | true=>rw [hg]at h;cases h
   | false=>
     rw [hg]at h;simp at h;obtain ⟨rfl,rfl⟩:=h
     have hall:∀ d,FF P (d+1+1) t (.agg (xs.map (.int k'))) (.agg (ys.map (.int k')))=some (decide (xs=ys)):=by
      intro d;unfold FF;simp only [hu];simp only [(pH ht).1,kL]
      have:=ZD (P:=P) (f:=FF P (d+1)) (e:=e) (k:=k') (fun a b=>by
       unfold FF;simp only [hk]
       simp) ht m 0 xs ys (by omega) (by omega)
      simpa using this
     have key:FF P 10000 t (.agg (xs.map (.int k'))) (.agg (ys.map (.int k')))=some (decide (xs=ys)):=hall 9998;simp only [abin,nX,hg,key];rfl
  ·cases h
 ·cases h
theorem aUu:aOu Tryz.prog 162=some (32,.u8):=by kernel_rfl
theorem zB {p q:List Nat} (hp:p.length=32) (hq:q.length=32) {x y:Operand}:abin Tryz.prog .neq 162 x y (.agg (p.map bH)) (.agg (q.map bH))=some (.bool (!decide (p=q))):=by
 rw [NA,NA,YG aUu (by simpa using hp) (by simpa using hq)];simp only [YL]
def L9:List lX:=[BL 62 (fun x:Str=>[.str x.1]) fun x=>.int .i64 (counted x.1:Nat),BL 63 (fun x:Str=>[.str x.1]) fun x=>IZ x.1]
theorem aRy:∀ x∈L9,dU Tryz.prog x:=elist_cons (qV fun x=>RE x.1 x.2) (elist_cons (qV fun x=>aDc x.1) aE)
theorem aNa (s:List Nat) (hs:s.length<9223372036854775808) (u:Sto):bJ L9 62 [.str s] u=some (.ret (.int .i64 (counted s:Nat)) none):=by
 rw [L9];refine entF_same (A:=fun x:Str=>[.str x.1]) ?_ ⟨s,hs⟩;rintro ⟨a,_⟩ ⟨b,_⟩ h;simp at h;subst h;rfl
theorem aNb (s:List Nat) (hs:s.length<9223372036854775808) (u:Sto):bJ L9 63 [.str s] u=some (.ret (IZ s) none):=by
 rw [L9,BX (show (62:Nat)≠63 by decide)];refine entF_same (A:=fun x:Str=>[.str x.1]) ?_ ⟨s,hs⟩;rintro ⟨a,_⟩ ⟨b,_⟩ h;simp at h;subst h;rfl
theorem aJc {P:Program} {s:Sto} {t:TypeId} {k:IntKind} {z:AV} {id c:Nat} {i:Int} {v:AV} {l:List (Int × AV × Nat)} {K:ORes->Prop} (h:mpK P t=some (k,z)) (hg:s.get id=some (.map (sM k l) c))
 (hK:∀ l' c',(∀ x,oH l' x=if i=x then some v else oH l x)->K (.val' .undef (s.put id (.map (sM k l') c')))):MP (cU P s t (.map id) (.int k i) v) K:=by
 obtain ⟨l',c',h1,h2⟩:=YX h hg;exact ⟨_,h1,hK l' c' h2⟩
def MapJ (s:List Nat) (i:Nat) (u:Sto):Prop:=u.get 1=some (aW 0 [.map 0])/\∃ l c,u.get 0=some (.map (sM .i64 l) c)/\∀ q:Nat,oH l (q:Nat)=if q<i then some (.agg ((bZ s q).map bH)) else none
theorem MapJ.sim {s:List Nat} {i l:Nat} {u u':Sto} (h:SimX l u u') (hl:1<l) (hj:MapJ s i u):MapJ s i u':=by
 obtain ⟨h1,m,c,h2,h3⟩:=hj;exact ⟨h.get h1 (by omega),m,c,h.get h2 (by omega),h3⟩
def PAcc (u:Sto) (c k:Nat) (l:List (Nat × List Nat)):Prop:=∃ v,u.get c=some (aW 0 [v])/\((l=[]/\v=.nils)∨(l≠[]/\∃ id g,v=.sl id g 0 l.length (.room 2)/\u.get id=some (aW g (l.map sG).flatten)/\k<id))
theorem PAcc.sim {l':Nat} {u u':Sto} {c k:Nat} {l:List (Nat × List Nat)} (h:SimX l' u u') (hc:c≠l') (hk:l'<=k) (ha:PAcc u c k l):PAcc u' c k l:=by
 obtain ⟨v,h1,h2⟩:=ha;refine ⟨v,h.get h1 hc,?_⟩
 rcases h2 with h2 | ⟨h0,id,g,rfl,h3,h4⟩
 ·exact .inl h2
 ·exact .inr ⟨h0,id,g,rfl,h.get h3 (by omega),h4⟩
theorem frJ {i n:Nat} (h:i<n):i<n+1+1+1+1/\i≠n+1+1+1/\n+1+1+1≠i:=by refine ⟨?_,?_,?_⟩<;>omega
theorem aJd {n:Nat}:n<n+1+1+1+1/\n+1<n+1+1+1+1/\n+1+1<n+1+1+1+1/\n+1+1+1<n+1+1+1+1/\n≠n+1+1+1/\n+1+1+1≠n/\n+1≠n+1+1+1/\n+1+1+1≠n+1/\n+1+1≠n+1+1+1/\n+1+1+1≠n+1+1/\n+1+1<=n+1+1+1/\n+1+1+1<=n+1+1+1+1/\n+1+1<=n+1+1+1+1/\n+1<=n+1+1+1+1/\n<=n+1+1+1+1/\n+1+1<=n+1+1/\n+1+1+1<=n+1+1+1/\n+1+1+1+1<=n+1+1+1+1:=by
 refine ⟨?_,?_,?_,?_,?_,?_,?_,?_,?_,?_,?_,?_,?_,?_,?_,?_,?_,?_⟩<;>omega
theorem VZ {l m low:Nat} {o:Tr AObj} {S:Sto} (h1:m<=S.n) (h2:∀ id,id<m->id≠l->S.o.get id=o.get id):SimX l ⟨m,low,o⟩ S:=⟨h1,fun id hid hl=>by
 have hid':id<m:=hid;rw [Sto.get_mk hid']
 have:id<S.n:=by omega
 unfold Sto.get
 rw [show Nat.blt id S.n=true by simpa using this];exact h2 id hid' hl⟩
theorem vO {S:Sto} {id:Nat} {x:AObj} (h1:id<S.n) (h2:S.o.get id=some x):S.get id=some x:=by
 unfold Sto.get;rw [show Nat.blt id S.n=true by simpa using h1];exact h2
theorem PAcc.new {u:Sto} {c k id g:Nat} {l:List (Nat × List Nat)} (h0:l≠[]) (h1:u.get c=some (aW 0 [.sl id g 0 l.length (.room 2)])) (h2:u.get id=some (aW g (l.map sG).flatten)) (h3:k<id):PAcc u c k l:=⟨_,h1,.inr ⟨h0,id,g,rfl,h2,h3⟩⟩
set_option maxHeartbeats 2000000 in
theorem patch_ok (a b:List Nat) (ha:a.length<9223372036854775808) (hb:b.length<9223372036854775808) (ba:By a) (bb:By b):Abs.Returns Tryz.prog 26 [.str a,.str b] (patchV a b):=by
 refine NT (L:=L9) aRy aG (by kernel_rfl) Tryz.func26 Tryz.ntmps26 Tryz.results26 rfl rfl (aA bQ (aA bQ aD)) ?_;have ca:=aNa a ha;have cb:=aNa b hb;have pa:=aNb a ha;have pb:=aNb b hb
 have hda:((counted a:Nat):Int)=0↔counted a=0:=by omega
 have hdb:((counted b:Nat):Int)=0↔counted b=0:=by omega
 simp +contextual +decide (maxSteps:=1000000) only [↓ wP,wQ,tf,Nat.reduceAdd,ne_eq,ca,cb,pa,hda,hdb,sN];by_cases h0:counted a=0∨counted b=0
 ·have e0:patchV a b=.tuple [.nils,.int .i64 2]:=by rw [patchV,if_pos h0]
  have hF:∀ S,Frz S 0 (.tuple [.nils,.int .i64 2]) (patchV a b):=fun S=>by rw [e0];exact .und _ (eJ (aA dH (aA aO aD)))
  refine ⟨fun hna=>⟨fun hnb=>?_,fun hnb=>absurd h0 (by omega)⟩,fun hza=>?_⟩
  ·refine ⟨rfl,_,rfl,_,rfl,?_⟩
   exact hF _
  ·refine ⟨rfl,_,rfl,_,rfl,?_⟩
   exact hF _
 ·refine ⟨fun hna=>⟨fun hnb=>absurd hnb (by omega),fun hnb=>?_⟩,fun hza=>absurd hza (by omega)⟩
  refine JG (xs:=sH a) (fun i u=>MapJ a i u) (fun _ _=>False) (fun _ _=>False) ?_ (fun i u u' h ha=>MapJ.sim h (by decide) ha) (fun _ _ _ _ h=>h) (fun _ _ _ _ h=>h) (fun _ _ h=>h.elim) ⟨rfl,[],0,rfl,fun q=>by simp [oH]⟩ ?_ ?_ (fun _ _ _ h=>h.elim) (fun _ _ _ _ h=>h.elim) (fun _ _ h=>h.elim)
  ·simp +decide only [↓ aB]
   exact CW a ha ca (fun a u=>rfl)
  ·rintro i x hx ⟨n,low,o⟩ hn hg1 hg2 ⟨hv,l,c,hl,hq⟩
   have hi:i<counted a:=by
    have:=(List.getElem?_eq_some_iff.1 hx).1
    simpa [sH] using this
   have hx':x=[.int .i64 (i:Nat),.agg ((bZ a i).map bH)]:=by
    simp [sH,hi]at hx;exact hx.symm
   subst hx';have hp:=qN hi;have hn':3<n:=hn;have f0:=bK (i:=0) (n:=n) (by omega);have f1:=bK (i:=1) (n:=n) (by omega);have f2:=bK (i:=2) (n:=n) (by omega);have f3:=bK (i:=3) (n:=n) (by omega);simp +decide only [Sto.get_mk,f0,f1,f2,f3,Nat.reduceAdd]at hg1 hg2 hv hl;refine ⟨_,rfl,?_⟩;simp +contextual +decide (maxSteps:=1000000) only [↓ wP,wQ,tf,Nat.reduceAdd,ne_eq,BK,hp,f1,f3,dC,hg2,hv,pD,oO,uI,lJ,Env.setS];clear hg2
   refine aJc (l:=l) (c:=c) aOh (by simp +decide only [↓ aB,aZ,dD,f0,ne_eq,hl]) fun l' c' hl'=>?_
   simp +contextual +decide (maxSteps:=1000000) only [↓ wP,wQ,ne_eq,BK,f2,f3,hg1,pC];refine ⟨by simp +decide only [↓ aB,aZ,dD,f1,ne_eq,hv],l',c',by simp +decide only [↓ aB,dD,f0],fun q=>?_⟩;rw [hl',hq];by_cases h1:q=i
   ·subst h1;simp
   ·have h2:¬ ((i:Int)=(q:Nat)):=by omega
    rw [if_neg h2];by_cases h3:q<i
    ·rw [if_pos h3,if_pos (by omega)]
    ·rw [if_neg h3,if_neg (by omega)]
  ·rintro ⟨n,low,o⟩ hn hg1 ⟨hv,l,c,hl,hq⟩
   have hrow:(sH a).length=counted a:=by simp [sH]
   rw [hrow]at hq;have hn':3<n:=hn;have f0:=bK (i:=0) (n:=n) (by omega);have f1:=bK (i:=1) (n:=n) (by omega);have f2:=bK (i:=2) (n:=n) (by omega);have f3:=bK (i:=3) (n:=n) (by omega);simp +decide only [Sto.get_mk,f0,f1,f2]at hg1 hv hl;simp +contextual +decide (maxSteps:=1000000) only [↓ wP,wQ,tf,ne_eq,pb];refine JG (xs:=sH b) (fun i u=>MapJ a (counted a) u/\PAcc u n (n+2) (patchTo a b i)/\u.get 2=some (.defs (some []))) (fun _ _=>False) (fun _ _=>False) ?_ (fun i u u' h ⟨q1,q2,q3⟩=>⟨MapJ.sim h (by show 1<n+1+1;omega) q1,PAcc.sim h (by show n≠n+1+1;omega) (by show n+1+1<=n+2;omega) q2,h.get q3 (by show 2≠n+1+1;omega)⟩) (fun _ _ _ _ h=>h) (fun _ _ _ _ h=>h) (fun _ _ h=>h.elim) ?_ ?_ ?_ (fun _ _ _ h=>h.elim) (fun _ _ _ _ h=>h.elim) (fun _ _ h=>h.elim)
   ·simp +decide only [↓ aB]
    exact CW b hb cb (fun a u=>rfl)
   ·refine ⟨⟨by simp +decide only [↓ aB,aZ,dD,f1,ne_eq,hv],l,c,by simp +decide only [↓ aB,aZ,dD,f0,ne_eq,hl],hq⟩,⟨.nils,by simp +decide only [↓ aB,dD,dC],.inl ⟨rfl,rfl⟩⟩,by simp +decide only [↓ aB,aZ,dD,f2,ne_eq,hg1]⟩
   ·rintro i x hx ⟨m,low',o'⟩ hm hgd hgl ⟨⟨hv1,l',c',hl1,hq1⟩,⟨v,hv',hacc⟩,hg2'⟩
    have hi:i<counted b:=by
     have:=(List.getElem?_eq_some_iff.1 hx).1
     simpa [sH] using this
    have hx':x=[.int .i64 (i:Nat),.agg ((bZ b i).map bH)]:=by
     simp [sH,hi]at hx;exact hx.symm
    subst hx';have hp:=qN hi;have hm':n+1+1<m:=hm;have k0:=bK (i:=0) (n:=m) (by omega);have k1:=bK (i:=1) (n:=m) (by omega);have k2:=bK (i:=2) (n:=m) (by omega);have kn:=bK (i:=n) (n:=m) (by omega);have kn1:=bK (i:=n+1) (n:=m) (by omega);have kn2:=bK (i:=n+1+1) (n:=m) (by omega);have hgd':(Sto.mk m low' o').get (n+1)=some (.defs (some [])):=hgd;have hgl':=hgl;simp +decide only [Sto.get_mk,k0,k1,k2,kn,kn1,kn2]at hgd' hgl' hv' hv1 hl1 hg2';refine ⟨_,rfl,?_⟩;clear hgd hgl hm hn
    have hcv:∀ {g:Nat} {d:Option ORes},WM (some (aW g ((bZ b i).map bH))) g 32 d=some (.val (.str (bZ b i))):=fun {g d}=>zK hp.symm (YM bb i)
    by_cases hia:i<counted a
    ·have hlk:∀ s:Sto,s.get 0=some (.map (sM .i64 l') c')->alookup Tryz.prog s 157 (.map 0) (.int .i64 (i:Nat)) true=some (.tuple [.agg ((bZ a i).map bH),.bool true]):=fun s hs=>by
      rw [HW aOh hs,hq1,if_pos hia];rfl
     have hpa:=qN hia;by_cases hpq:bZ a i=bZ b i
     ·simp +contextual +decide (maxSteps:=1000000) only [↓ wP,wQ,tf,Nat.reduceAdd,ne_eq,BK,hp,hlk,zB,hpq,iP,f0,f1,f2,k0,k1,k2,kn1,kn2,dC,hgd',hgl',hv1,hl1,hg2',pD,pC,oO,uI,lJ,Env.setS]
      have hdf:gH a b i=false:=by simp [gH,hpq,(oL hna).1,hia]
      rw [bM,hdf];simp only [Bool.false_eq_true,if_false,List.append_nil];refine ⟨MapJ.sim (l:=n+1+1) (u:=⟨m,low',o'⟩) (VZ (by show m<=m+1+1;omega) fun id h1 h2=>?_) (by omega) ⟨vO k1.1 hv1,l',c',vO k0.1 hl1,hq1⟩,PAcc.sim (l':=n+1+1) (u:=⟨m,low',o'⟩) (VZ (by show m<=m+1+1;omega) fun id h1 h2=>?_) (by omega) (by omega) ⟨v,vO kn.1 hv',hacc⟩⟩
      ·have g1:=bK h1
       simp +decide only [↓ aB,g1,h2,ne_eq,not_false_iff]
      ·have g1:=bK h1
       simp +decide only [↓ aB,aZ,g1,h2,ne_eq]
     ·have hdf:gH a b i=true:=by simp [gH,hpq]
      have hlen:(patchTo a b i).length<=i:=patchTo_len a b i;have hi256:=(qM hi).2
      have hsmall:(2*((patchTo a b i).length+1)+1024)*24<=281474976710656/\(patchTo a b i).length+1<4611686018427387904:=⟨by omega,by omega⟩
      rcases hacc with ⟨hL,rfl⟩ | ⟨hL,id,g,rfl,hid,hidk⟩
      ·have j0:=frJ k0.1
       have j1:=frJ k1.1;have j2:=frJ k2.1;have jn:=frJ kn.1;have jn1:=frJ kn1.1;have jn2:=frJ kn2.1;simp +contextual +decide (maxSteps:=1000000) only [↓ wP,wQ,tf,Nat.reduceAdd,ne_eq,BK,Nat.reduceMul,Nat.zero_mul,Nat.mul_one,Nat.zero_add,hp,hpa,hlk,zB,hpq,iP,cW,hcv,f0,f1,f2,k0,k1,k2,kn,kn1,kn2,dC,hgd',hgl',hv',hv1,hl1,hg2',pD,pC,oO,uI,lJ,Env.setS,aJd,j2,jn,jn1,jn2];clear hgl';refine ⟨⟨by simp +decide only [↓ aB,aZ,dD,f1,k1,j1,ne_eq,hv1],l',c',by simp +decide only [↓ aB,aZ,dD,f0,k0,j0,ne_eq,hl1],hq1⟩,?_⟩;rw [bM,hdf,hL];exact PAcc.new (id:=m+1+1+1) (g:=0) (by simp) (by simp +decide only [↓ aB,aZ,dD,jn];rfl) (by simp +decide only [↓ aB,aZ,dD,dC,jn,ne_eq];rfl) (by omega)
      ·have hidm:id<m:=Sto.get_lt hid
       rw [Sto.get_mk hidm]at hid;have f3:=bK hidm
       have f4:id≠2/\2≠id/\id≠0/\0≠id/\id≠1/\1≠id/\id≠n/\n≠id/\id≠n+1/\n+1≠id/\id≠n+1+1/\n+1+1≠id:=⟨by omega,by omega,by omega,by omega,by omega,by omega,by omega,by omega,by omega,by omega,by omega,by omega⟩
       have hfl:((patchTo a b i).map sG).flatten.length=(patchTo a b i).length*2:=by rw [eL _ (pQ _),List.length_map]
       simp +contextual +decide (maxSteps:=1000000) only [↓ wP,wQ,tf,Nat.reduceAdd,ne_eq,BK,Nat.reduceMul,Nat.zero_mul,Nat.zero_add,hp,hpa,hlk,zB,hpq,iP,cW,hcv,f0,f1,f2,k0,k1,k2,kn,kn1,kn2,dC,hgd',hgl',hv',hv1,hl1,hg2',pD,pC,oO,uI,lJ,Env.setS,hsmall,f3,f4,hid,hfl,aJd];clear hgl';refine ⟨⟨by simp +decide only [↓ aB,aZ,dD,f1,k1,f4,ne_eq,hv1],l',c',by simp +decide only [↓ aB,aZ,dD,f0,k0,f4,ne_eq,hl1],hq1⟩,?_⟩;rw [bM,hdf];refine PAcc.new (id:=id) (g:=g+1) (by simp) ?_ ?_ hidk
       ·simp +decide only [↓ aB,dD,kn]
        simp
       ·simp +decide only [↓ aB,dD,aZ,f3,f4,ne_eq]
        simp;rfl
    ·have hlk:∀ s:Sto,s.get 0=some (.map (sM .i64 l') c')->alookup Tryz.prog s 157 (.map 0) (.int .i64 (i:Nat)) true=some (.tuple [.agg (List.replicate 32 (.int .u8 0)),.bool false]):=fun s hs=>by
      rw [HW aOh hs,hq1,if_neg hia];rfl
     have hdf:gH a b i=true:=by simp [gH,(oL hna).1,hia]
     have hlen:(patchTo a b i).length<=i:=patchTo_len a b i;have hi256:=(qM hi).2
     have hsmall:(2*((patchTo a b i).length+1)+1024)*24<=281474976710656/\(patchTo a b i).length+1<4611686018427387904:=⟨by omega,by omega⟩
     rcases hacc with ⟨hL,rfl⟩ | ⟨hL,id,g,rfl,hid,hidk⟩
     ·have j0:=frJ k0.1
      have j1:=frJ k1.1;have j2:=frJ k2.1;have jn:=frJ kn.1;have jn1:=frJ kn1.1;have jn2:=frJ kn2.1;simp +contextual +decide (maxSteps:=1000000) only [↓ wP,wQ,tf,Nat.reduceAdd,ne_eq,BK,Nat.reduceMul,Nat.zero_mul,Nat.mul_one,Nat.zero_add,hp,hlk,iP,cW,hcv,f0,f1,f2,k0,k1,k2,kn,kn1,kn2,dC,hgd',hgl',hv',hv1,hl1,hg2',pD,pC,oO,uI,Env.setS,aJd,j2,jn,jn1,jn2];clear hgl';refine ⟨⟨by simp +decide only [↓ aB,aZ,dD,f1,k1,j1,ne_eq,hv1],l',c',by simp +decide only [↓ aB,aZ,dD,f0,k0,j0,ne_eq,hl1],hq1⟩,?_⟩;rw [bM,hdf,hL];exact PAcc.new (id:=m+1+1+1) (g:=0) (by simp) (by simp +decide only [↓ aB,aZ,dD,jn];rfl) (by simp +decide only [↓ aB,aZ,dD,dC,jn,ne_eq];rfl) (by omega)
     ·have hidm:id<m:=Sto.get_lt hid
      rw [Sto.get_mk hidm]at hid;have f3:=bK hidm
      have f4:id≠2/\2≠id/\id≠0/\0≠id/\id≠1/\1≠id/\id≠n/\n≠id/\id≠n+1/\n+1≠id/\id≠n+1+1/\n+1+1≠id:=⟨by omega,by omega,by omega,by omega,by omega,by omega,by omega,by omega,by omega,by omega,by omega,by omega⟩
      have hfl:((patchTo a b i).map sG).flatten.length=(patchTo a b i).length*2:=by rw [eL _ (pQ _),List.length_map]
      simp +contextual +decide (maxSteps:=1000000) only [↓ wP,wQ,tf,Nat.reduceAdd,ne_eq,BK,Nat.reduceMul,Nat.zero_mul,Nat.zero_add,hp,hlk,iP,cW,hcv,f0,f1,f2,k0,k1,k2,kn,kn1,kn2,dC,hgd',hgl',hv',hv1,hl1,hg2',pD,pC,oO,uI,Env.setS,hsmall,f3,f4,hid,hfl,aJd];clear hgl';refine ⟨⟨by simp +decide only [↓ aB,aZ,dD,f1,k1,f4,ne_eq,hv1],l',c',by simp +decide only [↓ aB,aZ,dD,f0,k0,f4,ne_eq,hl1],hq1⟩,?_⟩;rw [bM,hdf];refine PAcc.new (id:=id) (g:=g+1) (by simp) ?_ ?_ hidk
      ·simp +decide only [↓ aB,dD,kn]
       simp
      ·simp +decide only [↓ aB,dD,aZ,f3,f4,ne_eq]
       simp;rfl
   ·rintro ⟨m,low',o'⟩ hm hgd ⟨_,⟨v,hv',hacc⟩,hg2'⟩
    have hrowb:(sH b).length=counted b:=by simp [sH]
    rw [hrowb]at hacc;have hm':n+2<m:=hm;have k0:=bK (i:=n) (n:=m) (by omega);have k1:=bK (i:=n+1) (n:=m) (by omega);have k2:=bK (i:=2) (n:=m) (by omega);have hgd':(Sto.mk m low' o').get (n+1)=some (.defs (some [])):=hgd;have hgd0:=hgd';have hg20:=hg2';simp +decide only [Sto.get_mk,k0,k1,k2]at hgd' hv' hg2';simp +contextual +decide (maxSteps:=1000000) only [↓ wP,wQ,tf,ne_eq,k0,dC,hv'];refine ⟨rfl,((Sto.mk m low' o').put (n+1) (.defs none)).put 2 (.defs none),?_,[v,.int .i64 0],?_,?_⟩
    ·show mN (Sto.mk m low' o') [.collected (n+1),.collected 2]=_
     have:((Sto.mk m low' o').put (n+1) (.defs none)).get 2=some (.defs (some [])):=by rw [Sto.get_put_ne _ _ (by omega)];exact hg20
     simp only [mN,hgd0,this]
    ·simp +decide only [↓ aB,bN,aZ]
    ·have e0:patchV a b=.tuple [partsV (patchTo a b (counted b)),.int .i64 0]:=by rw [patchV,if_neg h0]
     rw [e0];refine .tuple _ _ rfl (eM ?_ (eM (.und _ aO) jD))
     rcases hacc with ⟨hl,rfl⟩ | ⟨hl,id,g,rfl,hid,hk⟩
     ·rw [partsV,if_pos hl];exact .und _ dH
     ·rw [partsV,if_neg hl]
      refine qU (g:=g) (k:=2) (Nat.zero_le _) (by rw [Sto.get_put_ne _ _ (by omega),Sto.get_put_ne _ _ (by omega)];exact hid) (by simp) (pQ _) fun x hx y hy=>?_
      obtain ⟨z,_,rfl⟩:=List.mem_map.1 hx;simp only [sG,List.mem_cons,List.not_mem_nil,or_false]at hy
      rcases hy with rfl | rfl
      ·exact aO
      ·exact bQ
end
end Go.Proofs.YtpmccfnfikkkbaaGreat.I
