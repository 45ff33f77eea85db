/-
  Objects and their bytes, in plain words; how they lie in the machine.
-/
import Derived.Test.YtpmccfnfikkkbaaGreatEp
import Derived.Test.YtpmccfnfikkkbaaGreatTf
import Derived.Test.YtpmccfnfikkkbaaGreatEm
set_option linter.unusedVariables false
set_option linter.unusedSimpArgs false
namespace Go.Proofs.YtpmccfnfikkkbaaGreat.I
open Go.Abs Go
noncomputable section
set_option maxRecDepth 10000
abbrev kM:=Int × Int
structure Fr where
 node:Int
 env:List kM
 vals:List kM
 deriving DecidableEq
structure Ob where
 form:Int
 n:Int
 vals:List kM
 frs:List Fr
 deriving DecidableEq
instance:Inhabited Fr:=⟨⟨0,[],[]⟩⟩
instance:Inhabited Ob:=⟨⟨0,0,[],[]⟩⟩
def kN (n l h:Int):Bool:=decide (l<=n)&&decide (n<=h)
def dB (n:Int):Bool:=kN n (-1073741824) 1073741824
def kO (v:kM):Bool:=if v.1=1 then dB v.2 else if v.1=2 then kN v.2 0 1 else if v.1=3 then decide (v.2=0) else if v.1=4 then kN v.2 0 1073741824 else if v.1=5 then kN v.2 0 119 else false
def dL (l:List kM):Bool:=decide (l.length<=30)&&l.all kO
def qS (f:Fr):Bool:=kN f.node 0 1073741824&&dL f.env&&dL f.vals
def HU (l:List Fr):Bool:=decide (l.length<=40)&&l.all qS
def mL (o:Ob):Bool:=kN o.form 1 6&&dB o.n&&dL o.vals&&HU o.frs
def bC (n:Nat):List Nat:=if h:127<n then (n%128+128)::bC (n/128) else [n]
 termination_by n
 decreasing_by omega
def RX (n:Int):Nat:=if n<0 then (-2*n-1).toNat else (2*n).toNat
def eB (n:Int):List Nat:=bC (RX n)
def sK (v:kM):List Nat:=(v.1.toNat%256)::eB v.2
def gE (l:List kM):List Nat:=bC l.length++l.flatMap sK
def JC (f:Fr):List Nat:=bC f.node.toNat++gE f.env++gE f.vals
def RY (o:Ob):List Nat:=(o.form.toNat%256)::(eB o.n++gE o.vals++bC o.frs.length++o.frs.flatMap JC)
theorem iN (n:Nat):By (bC n):=by
 induction n using Nat.strongRecOn with
 | _ n ih=>
   unfold bC;split
   ·intro b hb
    rcases List.mem_cons.1 hb with rfl | hb
    ·omega
    ·exact ih (n/128) (by omega) b hb
   ·intro b hb
    simp at hb;omega
theorem cZ:∀ (k n:Nat),n<128 ^ k->0<k->(bC n).length<=k
 | 0,_,_,h=>absurd h (by omega)
 | k+1,n,hn,_=>by
   unfold bC;split
   ·rename_i h
    cases k with
    | zero=>simp at hn;omega
    | succ k=>
      have:=cZ (k+1) (n/128) (by rw [Nat.pow_succ]at hn;exact Nat.div_lt_of_lt_mul (by rw [Nat.mul_comm];exact hn)) (by omega);simp only [List.length_cons];omega
   ·simp
theorem JD {n:Int} (h:dB n=true):RX n<4294967296:=by
 simp only [dB,kN,Bool.and_eq_true,decide_eq_true_eq]at h;unfold RX;split<;>omega
theorem iE {n:Int} (h:dB n=true):(eB n).length<=5:=cZ 5 _ (by have:=JD h;omega) (by omega)
def eH (v:kM):AV:=.agg [.int .i64 v.1,.int .i64 v.2]
theorem jT (v:kM):(eH v).cells.length=2:=rfl
def decVal:AV->Option kM
 | .agg [.int .i64 k,.int .i64 n]=>some (k,n)
 | _=>none
theorem sL {a:AV} {v:kM} (h:decVal a=some v):a=eH v:=by
 unfold decVal at h;split at h
 ·cases h;rfl
 ·cases h
def decL {α:Type} (f:AV->Option α):List AV->Option (List α)
 | []=>some []
 | a::l=>match f a,decL f l with
   | some x,some xs=>some (x::xs)
   | _,_=>none
def decS {α:Type} (f:AV->Option α):AV->Option (List α)
 | .nils=>some []
 | .fz xs _=>if xs.length<=9223372036854775807 then decL f xs else none
 | _=>none
def decVals:AV->Option (List kM):=decS decVal
theorem DK {α:Type} {f:AV->Option α} {g:α->AV} (h:∀ a x,f a=some x->a=g x):∀ (l:List AV) (xs:List α),decL f l=some xs->l=xs.map g
 | [],xs,e=>by simp [decL]at e;subst e;rfl
 | a::l,xs,e=>by
   simp only [decL]at e;split at e
   ·rename_i x ys h1 h2
    simp at e;subst e;rw [h _ _ h1,DK h l ys h2];rfl
   ·cases e
theorem dA {a:AV} {l:List kM} (h:decVals a=some l):Sl a (l.map eH):=by
 unfold decVals decS at h;split at h
 ·simp at h;subst h;exact ⟨.inl ⟨rfl,rfl⟩,Nat.zero_le _⟩
 ·rename_i xs c
  split at h
  ·rename_i hl
   have:=DK (g:=eH) (fun a x=>sL) xs l h;subst this;exact ⟨.inr ⟨c,rfl⟩,hl⟩
  ·cases h
 ·cases h
def decFr:AV->Option Fr
 | .agg [.int .i64 k,e,v]=>match decVals e,decVals v with
   | some e,some v=>some ⟨k,e,v⟩
   | _,_=>none
 | _=>none
def decFrs:AV->Option (List Fr):=decS decFr
def decOb:AV->Option Ob
 | .agg [.int .i64 f,.int .i64 n,vs,fs]=>match decVals vs,decFrs fs with
   | some vs,some fs=>some ⟨f,n,vs,fs⟩
   | _,_=>none
 | _=>none
theorem kS {a:AV} {f:Fr} (h:decFr a=some f):∃ e v,a=.agg [.int .i64 f.node,e,v]/\decVals e=some f.env/\decVals v=some f.vals:=by
 unfold decFr at h;split at h
 ·rename_i k e v
  split at h
  ·rename_i e' v' h1 h2
   cases h;exact ⟨e,v,rfl,h1,h2⟩
  ·cases h
 ·cases h
theorem gI {a:AV} {o:Ob} (h:decOb a=some o):∃ vs fs,a=.agg [.int .i64 o.form,.int .i64 o.n,vs,fs]/\decVals vs=some o.vals/\decFrs fs=some o.frs:=by
 unfold decOb at h;split at h
 ·rename_i k n vs fs
  split at h
  ·rename_i e' v' h1 h2
   cases h;exact ⟨vs,fs,rfl,h1,h2⟩
  ·cases h
 ·cases h
theorem NN {α:Type} {f:AV->Option α}:∀ (l:List AV) (xs:List α),decL f l=some xs->l.length=xs.length/\∀ i (h:i<l.length) (h':i<xs.length),f l[i]=some xs[i]
 | [],xs,e=>by simp [decL]at e;subst e;exact ⟨rfl,fun i h=>absurd h (by simp)⟩
 | a::l,xs,e=>by
   simp only [decL]at e;split at e
   ·rename_i x ys h1 h2
    simp at e;subst e;obtain ⟨q1,q2⟩:=NN l ys h2;refine ⟨by simp [q1],fun i h h'=>?_⟩
    cases i with
    | zero=>exact h1
    | succ i=>exact q2 i (by simpa using h) (by simpa using h')
   ·cases e
theorem uH {α:Type} {f:AV->Option α} {a:AV} {l:List α} (h:decS f a=some l):∃ xs,Sl a xs/\xs.length=l.length/\∀ i (h:i<xs.length) (h':i<l.length),f xs[i]=some l[i]:=by
 unfold decS at h;split at h
 ·simp at h;subst h;exact ⟨[],⟨.inl ⟨rfl,rfl⟩,Nat.zero_le _⟩,rfl,fun i h=>absurd h (by simp)⟩
 ·rename_i xs c
  split at h
  ·rename_i hl
   obtain ⟨q1,q2⟩:=NN xs l h;exact ⟨xs,⟨.inr ⟨c,rfl⟩,hl⟩,q1,q2⟩
  ·cases h
 ·cases h
theorem bG {a:AV} {l:List kM} (h:decVals a=some l):a.isCell=true:=(dA h).cell
theorem jC {α:Type} {f:AV->Option α} {a:AV} {l:List α} (h:decS f a=some l):a.isCell=true:=by
 obtain ⟨xs,h,_⟩:=uH h;exact h.cell
theorem aDs (l:List kM):∀ x∈l.map eH,UnderE 0 x:=fun x hx=>by obtain ⟨a,_,rfl⟩:=List.mem_map.1 hx;exact ⟨2,rfl⟩
theorem iV {a:AV} {l:List kM} (h:decVals a=some l):UnderE 0 a:=lZ (dA h) (aDs l)
theorem NO {a:AV} {f:Fr} (h:decFr a=some f):UnderE 0 a:=by
 obtain ⟨e,v,rfl,h1,h2⟩:=kS h
 refine dM fun x hx=>?_
 simp at hx
 rcases hx with rfl | rfl | rfl
 ·exact ⟨1,rfl⟩
 ·exact iV h1
 ·exact iV h2
theorem YW {a:AV} {l:List Fr} (h:decFrs a=some l):UnderE 0 a:=by
 obtain ⟨xs,h1,h2,h3⟩:=uH h
 refine lZ h1 fun x hx=>?_
 obtain ⟨i,hi,rfl⟩:=List.mem_iff_getElem.1 hx;exact NO (h3 i hi (by omega))
theorem pR {a:AV} {o:Ob} (h:decOb a=some o):UnderE 0 a:=by
 obtain ⟨vs,fs,rfl,h1,h2⟩:=gI h
 refine dM fun x hx=>?_
 simp at hx
 rcases hx with rfl | rfl | rfl | rfl
 ·exact ⟨1,rfl⟩
 ·exact ⟨1,rfl⟩
 ·exact iV h1
 ·exact YW h2
end
end Go.Proofs.YtpmccfnfikkkbaaGreat.I
/-
 The reference of images: what can be stored,and the bytes of an object.
-/
namespace Go.Proofs.YtpmccfnfikkkbaaGreat.I
open Go.Abs Go Go.Abs.TryzF
noncomputable section
set_option maxRecDepth 10000
theorem aY {i:Nat} (h:i<9223372036854775807):IntKind.i64.wrap ((i:Int)+1)=((i+1:Nat):Int):=by rw [IntWalk.i64_in _ (by omega)];rfl
theorem cE {α:Type} {l:List α} {i:Nat} {d:α} (h:i<l.length):l.getD i d=l[i]:=by simp [List.getD_eq_getElem?_getD,h]
theorem fB {α:Type} {l:List α} {i:Nat} {d:α} (h:i<l.length):l.take (i+1)=l.take i++[l.getD i d]:=by rw [cE h];exact List.take_succ_eq_append_getElem h
def RZ:List AV->Option AV
 | [.int .i64 n,.int .i64 l,.int .i64 h]=>some (.bool (kN n l h))
 | _=>none
theorem cC {n l h:Int}:RZ [.int .i64 n,.int .i64 l,.int .i64 h]=some (.bool (kN n l h)):=rfl
theorem rIn_ok:Abs.Ok Tryz.prog 140 RZ:=by
 intro args v hg;unfold RZ at hg;split at hg<;>cases hg;rename_i n l h;refine aF (L:=[]) aE aG (by kernel_rfl) Tryz.func140 Tryz.ntmps140 Tryz.results140 rfl rfl (aA aO (aA aO (aA aO aD))) aI ?_;by_cases h1:l<=n
 ·simp +contextual +decide (maxSteps:=1000000) only [↓ wP,wQ,ne_eq,h1]
  simp [kN,h1]
 ·simp +contextual +decide (maxSteps:=1000000) only [↓ wP,wQ,ne_eq,h1]
  simp [kN,h1]
def kT:List AV->Option AV
 | [a]=>(decVals a).map fun l=>.bool (decide (l.length<=60))
 | _=>none
def vR:List AV->Option AV
 | [a]=>(decVal a).map fun v=>.bool (kO v)
 | _=>none
theorem WK {v:kM}:Und 0 (eH v):=(dM fun x hx=>by simp at hx;rcases hx with rfl | rfl<;>exact ⟨1,rfl⟩:UnderE 0 (eH v)).und
set_option maxHeartbeats 1000000 in
theorem rvalue_ok:Abs.Ok Tryz.prog 272 vR:=by
 intro args v hg
 match args,hg with
 | [a],hg=>
   obtain ⟨⟨k,n⟩,hl,rfl⟩:=Option.map_eq_some_iff.1 hg;cases sL hl;refine aF (L:=[ent 140 RZ]) (elist_cons rIn_ok.ent aE) aG (by kernel_rfl) Tryz.func272 Tryz.ntmps272 Tryz.results272 rfl rfl (aA WK aD) aI ?_;by_cases h1:k=1
   ·subst h1;simp +contextual +decide (maxSteps:=1000000) only [↓ wP,wQ,tf,Nat.reduceAdd,ne_eq,eH,cC]
    rfl
   by_cases h2:k=2
   ·subst h2;simp +contextual +decide (maxSteps:=1000000) only [↓ wP,wQ,tf,Nat.reduceAdd,ne_eq,eH,cC]
    rfl
   by_cases h3:k=3
   ·subst h3;simp +contextual +decide (maxSteps:=1000000) only [↓ wP,wQ,tf,Nat.reduceAdd,ne_eq,eH]
    rfl
   by_cases h4:k=4
   ·subst h4;simp +contextual +decide (maxSteps:=1000000) only [↓ wP,wQ,tf,Nat.reduceAdd,ne_eq,eH,cC]
    rfl
   by_cases h5:k=5
   ·subst h5;simp +contextual +decide (maxSteps:=1000000) only [↓ wP,wQ,tf,Nat.reduceAdd,ne_eq,eH,cC]
    rfl
   simp +contextual +decide (maxSteps:=1000000) only [↓ wP,wQ,tf,Nat.reduceAdd,ne_eq,eH,h1,h2,h3,h4,h5];simp [kO,h1,h2,h3,h4,h5]
def BV:List AV->Option AV
 | [a]=>(decVals a).map fun l=>.bool (dL l)
 | _=>none
theorem vS {a:AV} {l:List kM} (h:decVals a=some l):BV [a]=some (.bool (dL l)):=by simp [BV,h]
theorem rvalues_ok:Abs.Ok Tryz.prog 220 BV:=by
 intro args v hg
 match args,hg with
 | [a],hg=>
   obtain ⟨l,hl,rfl⟩:=Option.map_eq_some_iff.1 hg;have ha:=dA hl;have hlen:=ha.2;simp only [List.length_map]at hlen;refine aF (L:=[ent 272 vR]) (elist_cons rvalue_ok.ent aE) aG (by kernel_rfl) Tryz.func220 Tryz.ntmps220 Tryz.results220 rfl rfl (aA (iV hl).und aD) aI ?_;simp +contextual +decide (maxSteps:=1000000) only [↓ wP,wQ];refine aN (fun i e=>∃ t,e=⟨19,none,220,t,[],⟨0,0,.leaf⟩,.no⟩/\t.val 0=a/\t.val 3=.int .i64 (i:Nat)/\i<=l.length/\(l.take i).all kO=true) (fun i=>l.length-i) 0 ⟨_,rfl,by simp +decide only [↓ aB,bN,aZ],by simp +decide only [↓ aB];rfl,Nat.zero_le _,rfl⟩ ?_;rintro i _ ⟨t,rfl,t0,t3,hi,hok⟩;by_cases hlt:i<l.length
   ·have d1:(i:Int)<(l.length:Nat):=by omega
    have d3:(0:Int)<=i:=by omega
    have d4:((i:Int)).toNat=i:=by omega
    have d5:=aY (i:=i) (by omega);have htk:=fB (d:=default) hlt
    have hm:l.getD i default∈l:=by rw [cE hlt];exact List.getElem_mem _
    cases hv:kO (l.getD i default) with
    | true=>
      simp +contextual +decide (maxSteps:=1000000) only [↓ wP,wQ,tf,Nat.reduceAdd,ne_eq,ha.len,ha.idx,t0,t3,d1,d3,d4,d5,eF jT,show (eH (l.getD i default))=.agg [.int .i64 (l.getD i default).1,.int .i64 (l.getD i default).2] from rfl,show vR [.agg [.int .i64 (l.getD i default).1,.int .i64 (l.getD i default).2]]=some (.bool (kO (l.getD i default))) from rfl,hv];exact ⟨i+1,by show _-_<_-_;omega,_,rfl,by simp +decide only [↓ aB,t0],by simp +decide only [↓ aB],hlt,by rw [htk,List.all_append,hok];simp only [List.all_cons,hv,List.all_nil];rfl⟩
    | false=>
      simp +contextual +decide (maxSteps:=1000000) only [↓ wP,wQ,tf,Nat.reduceAdd,ne_eq,ha.len,ha.idx,t0,t3,d1,d3,d4,eF jT,show (eH (l.getD i default))=.agg [.int .i64 (l.getD i default).1,.int .i64 (l.getD i default).2] from rfl,show vR [.agg [.int .i64 (l.getD i default).1,.int .i64 (l.getD i default).2]]=some (.bool (kO (l.getD i default))) from rfl,hv]
      have:l.all kO=false:=by rw [List.all_eq_false];exact ⟨_,hm,by rw [hv];simp⟩
      rw [dL,this,Bool.and_false]
   ·have:i=l.length:=by omega
    subst this;rw [List.take_length]at hok
    have d1:¬ ((l.length:Nat):Int)<(l.length:Nat):=by omega
    have h1:(((l.length:Nat):Int)<=30)=(l.length<=30):=propext (by omega);simp +contextual +decide (maxSteps:=1000000) only [↓ wP,wQ,tf,ne_eq,ha.len,t0,t3,d1,h1];rw [dL,hok,Bool.and_true]
end
end Go.Proofs.YtpmccfnfikkkbaaGreat.I
/-
 The reference of images: the bytes of numbers,values,objects.
-/
namespace Go.Proofs.YtpmccfnfikkkbaaGreat.I
open Go.Abs Go Go.Abs.TryzF
noncomputable section
set_option maxRecDepth 10000
theorem mM {n:Nat} (h:n<9223372036854775808):IntKind.i64.wrap (n:Int)=(n:Int):=IntWalk.i64_in _ (by omega)
theorem lY {a:Nat}:IntKind.u8.wrap (a:Int)=((a%256:Nat):Int):=by simp [IntKind.wrap,IntKind.bits,IntKind.signed]
theorem JE {a:Int} (h:0<=a):IntKind.u8.wrap a=((a.toNat%256:Nat):Int):=by
 have:((a.toNat:Nat):Int)=a:=by omega
 rw [<-this,lY];simp
theorem lL {n m:Nat}:Int.tmod (n:Int) (m:Int)=((n%m:Nat):Int):=by rw [Int.tmod_eq_emod_of_nonneg (by omega)];simp
theorem DL {n m:Nat}:Int.tdiv (n:Int) (m:Int)=((n/m:Nat):Int):=by rw [Int.tdiv_eq_ediv_of_nonneg (by omega)];simp
theorem BW {g c:Nat} {d:Option ORes} (hc:c<256):WM (some (aW g [.int .u8 (c:Nat)])) g 1 d=some (.val (.str [c])):=zK (l:=[c]) rfl (fun b hb=>by simp at hb;omega)
def iO:List AV->Option AV
 | [.int .i64 n]=>if 0<=n/\n<9223372036854775808 then some (.str (bC n.toNat)) else none
 | _=>none
theorem eS {n:Nat} (h:n<9223372036854775808):iO [.int .i64 (n:Nat)]=some (.str (bC n)):=by
 simp only [iO];rw [if_pos (by omega)];simp
set_option maxHeartbeats 1000000 in
theorem rnumber_ok:Abs.Ok Tryz.prog 145 iO:=by
 intro args v hg;unfold iO at hg;split at hg
 ·rename_i n
  split at hg
  ·rename_i hn
   cases hg
   obtain ⟨m0,rfl⟩:∃ m:Nat,n=(m:Int):=⟨n.toNat,by omega⟩
   rw [Int.toNat_natCast];have hlen:=cZ 9 m0 (by omega) (by omega);refine aF (L:=[]) aE aG (by kernel_rfl) Tryz.func145 Tryz.ntmps145 Tryz.results145 rfl rfl (aA aO aD) bQ ?_;simp +contextual +decide (maxSteps:=1000000) only [↓ wP,wQ]
   refine aN (fun m e=>∃ t n low o out,e=⟨22,none,145,t,[],⟨n,low,o⟩,.no⟩/\t.val 0=.int .i64 (m:Nat)/\t.val 3=.str out/\out++bC m=bC m0/\m<=m0) (fun m=>m) m0
    ⟨_,0,0,_,[],rfl,by simp +decide only [↓ aB,bN,aZ],by simp +decide only [↓ aB],rfl,Nat.le_refl _⟩ ?_
   rintro m _ ⟨t,n,low,o,out,rfl,t0,t3,hout,hm⟩
   have hle:out.length+(bC m).length<=9:=by rw [<-List.length_append,hout];exact hlen
   have d1:(127<(m:Int))=(127<m):=propext (by omega);by_cases hlt:127<m
   ·have hu:bC m=(m%128+128)::bC (m/128):=by rw [bC,dif_pos hlt]
    have e1:Int.tmod (m:Int) 128=((m%128:Nat):Int):=lL
    have e2:IntKind.i64.wrap (((m%128:Nat):Int)+128)=((m%128+128:Nat):Int):=by rw [IntWalk.i64_in _ (by omega)];omega
    have e3:IntKind.u8.wrap ((m%128+128:Nat):Int)=((m%128+128:Nat):Int):=by rw [lY];omega
    have e4:IntKind.i64.wrap (Int.tdiv (m:Int) 128)=((m/128:Nat):Int):=by rw [show Int.tdiv (m:Int) 128=((m/128:Nat):Int) from DL,mM (by omega)]
    have hcv:∀ {g:Nat} {d:Option ORes},WM (some (aW g [.int .u8 ((m%128+128:Nat):Int)])) g 1 d=some (.val (.str [m%128+128])):=BW (by omega)
    have hadd:out.length + [m%128+128].length<9223372036854775808:=by simp;omega
    simp +contextual +decide (maxSteps:=1000000) only [↓ wP,wQ,tf,ne_eq,t0,t3,d1,hlt,e1,e2,e3,e4,Nat.mul_one,Nat.zero_add,cW,hcv,dC,aR hadd];exact ⟨m/128,by show m/128<m;omega,_,n+1,_,_,out++[m%128+128],rfl,by simp +decide only [↓ aB],by simp +decide only [↓ aB],by rw [<-hout,hu,List.append_assoc];rfl,by omega⟩
   ·have hu:bC m=[m]:=by rw [bC,dif_neg hlt]
    have e3:IntKind.u8.wrap (m:Int)=(m:Int):=by rw [lY];omega
    have hcv:∀ {g:Nat} {d:Option ORes},WM (some (aW g [.int .u8 (m:Int)])) g 1 d=some (.val (.str [m])):=BW (by omega)
    have hadd:out.length + [m].length<9223372036854775808:=by simp;omega
    simp +contextual +decide (maxSteps:=1000000) only [↓ wP,wQ,tf,ne_eq,t0,t3,d1,hlt,e3,Nat.mul_one,Nat.zero_add,cW,hcv,dC,aR hadd];rw [<-hout,hu]
  ·cases hg
 ·cases hg
def qT:List AV->Option AV
 | [.int .i64 n]=>if dB n=true then some (.str (eB n)) else none
 | _=>none
theorem nK {n:Int} (h:dB n=true):qT [.int .i64 n]=some (.str (eB n)):=by simp [qT,h]
theorem rsigned_ok:Abs.Ok Tryz.prog 146 qT:=by
 intro args v hg;unfold qT at hg;split at hg
 ·rename_i n
  split at hg
  ·rename_i hn
   cases hg;have hn':=hn;simp only [dB,kN,Bool.and_eq_true,decide_eq_true_eq]at hn';refine aF (L:=[ent 145 iO]) (elist_cons rnumber_ok.ent aE) aG (by kernel_rfl) Tryz.func146 Tryz.ntmps146 Tryz.results146 rfl rfl (aA aO aD) bQ ?_;by_cases h0:n<0
   ·have e1:IntKind.i64.wrap (-2*n)=-2*n:=IntWalk.i64_in _ (by omega)
    have e2:IntKind.i64.wrap (-2*n-1)=((RX n:Nat):Int):=by rw [IntWalk.i64_in _ (by omega),RX,if_pos h0];omega
    have e3:=eS (n:=RX n) (by have:=JD hn;omega);simp +contextual +decide (maxSteps:=1000000) only [↓ wP,wQ,ne_eq,h0,e1,e2,e3];rfl
   ·have e2:IntKind.i64.wrap (2*n)=((RX n:Nat):Int):=by rw [IntWalk.i64_in _ (by omega),RX,if_neg h0];omega
    have e3:=eS (n:=RX n) (by have:=JD hn;omega);simp +contextual +decide (maxSteps:=1000000) only [↓ wP,wQ,ne_eq,h0,e2,e3];rfl
  ·cases hg
 ·cases hg
theorem JF {v:kM} (h:kO v=true):dB v.2=true/\1<=v.1/\v.1<=5:=by
 unfold kO at h;simp only [dB,kN,Bool.and_eq_true,decide_eq_true_eq]at h ⊢;split at h
 ·exact ⟨by simpa using h,by omega,by omega⟩
 ·split at h
  ·simp at h;exact ⟨by omega,by omega,by omega⟩
  ·split at h
   ·simp at h;exact ⟨by omega,by omega,by omega⟩
   ·split at h
    ·simp at h;exact ⟨by omega,by omega,by omega⟩
    ·split at h
     ·simp at h;exact ⟨by omega,by omega,by omega⟩
     ·cases h
theorem xG {v:kM} (h:kO v=true):(sK v).length<=6:=by
 have:=iE (JF h).1;simp [sK];omega
theorem dY {α:Type} {f:α->List Nat} {k:Nat}:∀ (l:List α),(∀ x∈l,(f x).length<=k)->(l.flatMap f).length<=l.length*k
 | [],_=>by simp
 | x::l,h=>by
   have h1:=h x (List.mem_cons_self ..)
   have h2:=dY l fun y hy=>h y (List.mem_cons_of_mem _ hy)
   simp only [List.flatMap_cons,List.length_append,List.length_cons,Nat.succ_mul];omega
theorem kU {l:List kM} (h:dL l=true):l.length<=30/\∀ v∈l,kO v=true:=by
 simp only [dL,Bool.and_eq_true,decide_eq_true_eq]at h;exact ⟨h.1,List.all_eq_true.1 h.2⟩
theorem pS {l:List kM} (h:dL l=true):(gE l).length<=185:=by
 obtain ⟨h1,h2⟩:=kU h;have e1:=cZ 1 l.length (by omega) (by omega)
 have e2:=dY (f:=sK) (k:=6) l fun x hx=>xG (h2 x hx)
 simp only [gE,List.length_append];omega
def NP:List AV->Option AV
 | [a]=>match decVals a with
   | some l=>if dL l=true then some (.str (gE l)) else none
   | none=>none
 | _=>none
theorem DM {a:AV} {l:List kM} (h:decVals a=some l) (h':dL l=true):NP [a]=some (.str (gE l)):=by simp [NP,h,h']
set_option maxHeartbeats 1000000 in
theorem rlist_ok:Abs.Ok Tryz.prog 222 NP:=by
 intro args v hg;unfold NP at hg;split at hg
 ·rename_i a
  split at hg
  ·rename_i l hl
   split at hg
   ·rename_i hok
    cases hg;have ha:=dA hl;obtain ⟨hl30,hall⟩:=kU hok;refine aF (L:=[ent 145 iO,ent 146 qT]) (elist_cons rnumber_ok.ent (elist_cons rsigned_ok.ent aE)) (fun _=>([15],[])) (by kernel_rfl) Tryz.func222 Tryz.ntmps222 Tryz.results222 rfl rfl (aA (iV hl).und aD) bQ ?_;have e0:=eS (n:=l.length) (by omega);simp +contextual +decide (maxSteps:=1000000) only [↓ wP,wQ,tf,ne_eq,ha.len,e0]
    refine aN (fun i e=>∃ t n low o,e=⟨32,none,222,t,[],⟨n,low,o⟩,.no⟩/\t.val 0=a/\t.val 3=.str (bC l.length++(l.take i).flatMap sK)/\t.val 4=.int .i64 (i:Nat)/\i<=l.length) (fun i=>l.length-i) 0
     ⟨_,0,0,_,rfl,by simp +decide only [↓ aB,bN,aZ],by simp only [List.take_zero,List.flatMap_nil,List.append_nil];simp +decide only [↓ aB],by simp +decide only [↓ aB];rfl,Nat.zero_le _⟩ ?_
    rintro i _ ⟨t,n,low,o,rfl,t0,t3,t4,hi⟩;by_cases hlt:i<l.length
    ·have d1:(i:Int)<(l.length:Nat):=by omega
     have d3:(0:Int)<=i:=by omega
     have d4:((i:Int)).toNat=i:=by omega
     have d5:=aY (i:=i) (by omega);have htk:=fB (d:=default) hlt
     have hm:l.getD i default∈l:=by rw [cE hlt];exact List.getElem_mem _
     obtain ⟨q1,q2,q3⟩:=JF (hall _ hm);have hvl:=xG (hall _ hm);have hsum:((l.take (i+1)).flatMap sK).length<=30*6:=Nat.le_trans (dY (k:=6) _ fun x hx=>xG (hall x (List.mem_of_mem_take hx))) (by rw [List.length_take];omega);have hnl:=cZ 1 l.length (by omega) (by omega);have hpre:((l.take i).flatMap sK).length<=30*6:=Nat.le_trans (dY (k:=6) _ fun x hx=>xG (hall x (List.mem_of_mem_take hx))) (by rw [List.length_take];omega);generalize hxd:l.getD i default=x at *;obtain ⟨k,m⟩:=x;have e3:=JE (a:=k) (by simp only at q2;omega);have hcv:∀ {g:Nat} {d:Option ORes},WM (some (aW g [.int .u8 ((k.toNat%256:Nat):Int)])) g 1 d=some (.val (.str [k.toNat%256])):=BW (by omega);have hsg:=nK (n:=m) q1;have hsl:=iE (n:=m) q1
     have hadd:(bC l.length++(l.take i).flatMap sK).length + [k.toNat%256].length<9223372036854775808:=by simp only [List.length_append,List.length_cons,List.length_nil];omega
     have hadd2:(bC l.length++(l.take i).flatMap sK++[k.toNat%256]).length+(eB m).length<9223372036854775808:=by simp only [List.length_append,List.length_cons,List.length_nil];omega
     generalize hpr:bC l.length++(l.take i).flatMap sK=pre at *;simp +contextual +decide (maxSteps:=1000000) only [↓ wP,wQ,tf,Nat.reduceAdd,ne_eq,ha.len,ha.idx,t0,t3,t4,d1,d3,d4,d5,eF jT,hxd,eH,e3,cW,hcv,hsg,dC,Nat.mul_one,Nat.zero_add,aR hadd,aR hadd2];refine ⟨i+1,by show _-_<_-_;omega,_,n+1,_,_,rfl,by simp +decide only [↓ aB,t0],?_,by simp +decide only [↓ aB],hlt⟩;rw [htk,List.flatMap_append];simp +decide only [↓ aB];simp only [List.flatMap_cons,List.flatMap_nil,List.append_nil,<-List.append_assoc];rw [hpr,sK,List.append_assoc];rfl
    ·have:i=l.length:=by omega
     subst this;rw [List.take_length]at t3
     have d1:¬ ((l.length:Nat):Int)<(l.length:Nat):=by omega
     simp +contextual +decide (maxSteps:=1000000) only [↓ wP,wQ,tf,ne_eq,ha.len,t0,t3,t4,d1];rfl
   ·cases hg
  ·cases hg
 ·cases hg
end
end Go.Proofs.YtpmccfnfikkkbaaGreat.I
