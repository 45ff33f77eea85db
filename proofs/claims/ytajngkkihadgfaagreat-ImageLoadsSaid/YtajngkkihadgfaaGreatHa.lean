/-
  Objects and their bytes, in plain words; how they lie in the machine.
-/
import Derived.Test.YtajngkkihadgfaaGreatEp
import Derived.Test.YtajngkkihadgfaaGreatTf
import Derived.Test.YtajngkkihadgfaaGreatEo
namespace Go.Proofs.YtajngkkihadgfaaGreat
open Go.Abs Go
noncomputable section
set_option maxRecDepth 10000
abbrev eZ:=Int × Int
structure Fr where
 node:Int
 env:List eZ
 vals:List eZ
 deriving DecidableEq
structure Ob where
 form:Int
 n:Int
 vals:List eZ
 frs:List Fr
 deriving DecidableEq
instance:Inhabited Fr:=⟨⟨0,[],[]⟩⟩
instance:Inhabited Ob:=⟨⟨0,0,[],[]⟩⟩
def jE (n l h:Int):Bool:=decide (l<=n)&&decide (n<=h)
def dF (n:Int):Bool:=jE n (-1073741824) 1073741824
def jC (v:eZ):Bool:=if v.1=1 then dF v.2 else if v.1=2 then jE v.2 0 1 else if v.1=3 then decide (v.2=0) else if v.1=4 then jE v.2 0 1073741824 else if v.1=5 then jE v.2 0 119 else false
def dH (l:List eZ):Bool:=decide (l.length<=30)&&l.all jC
def nF (f:Fr):Bool:=jE f.node 0 1073741824&&dH f.env&&dH f.vals
def yS (l:List Fr):Bool:=decide (l.length<=40)&&l.all nF
def fY (o:Ob):Bool:=jE o.form 1 6&&dF o.n&&dH o.vals&&yS o.frs
def bL (n:Nat):List Nat:=if h:127<n then (n%128+128)::bL (n/128) else [n]
 termination_by n
 decreasing_by omega
def JD (n:Int):Nat:=if n<0 then (-2*n-1).toNat else (2*n).toNat
def dY (n:Int):List Nat:=bL (JD n)
def nZ (v:eZ):List Nat:=(v.1.toNat%256)::dY v.2
def eX (l:List eZ):List Nat:=bL l.length++l.flatMap nZ
def vD (f:Fr):List Nat:=bL f.node.toNat++eX f.env++eX f.vals
def nG (o:Ob):List Nat:=(o.form.toNat%256)::(dY o.n++eX o.vals++bL o.frs.length++o.frs.flatMap vD)
theorem kG (n:Nat):By (bL n):=by
 induction n using Nat.strongRecOn with
 | _ n ih=>
   unfold bL
   split
   ·intro b hb
    rcases List.mem_cons.1 hb with rfl | hb
    ·omega
    ·exact ih (n/128) (by omega) b hb
   ·intro b hb
    simp at hb;omega
theorem dZ:∀ (k n:Nat),n<128 ^ k->0<k->(bL n).length<=k
 | 0,_,_,h=>absurd h (by omega)
 | k+1,n,hn,_=>by
   unfold bL
   split
   ·rename_i h
    cases k with
    | zero=>simp at hn;omega
    | succ k=>
      have:=dZ (k+1) (n/128) (by rw [Nat.pow_succ]at hn;exact Nat.div_lt_of_lt_mul (by rw [Nat.mul_comm];exact hn)) (by omega)
      simp only [List.length_cons];omega
   ·simp
theorem KT {n:Int} (h:dF n=true):JD n<4294967296:=by
 simp only [dF,jE,Bool.and_eq_true,decide_eq_true_eq]at h
 unfold JD
 split<;>omega
theorem jH {n:Int} (h:dF n=true):(dY n).length<=5:=dZ 5 _ (by have:=KT h;omega) (by omega)
def eH (v:eZ):AV:=.agg [.int .i64 v.1,.int .i64 v.2]
theorem lJ (v:eZ):(eH v).cells.length=2:=rfl
def FC:AV->Option eZ
 | .agg [.int .i64 k,.int .i64 n]=>some (k,n)
 | _=>none
theorem OT (v:eZ):FC (eH v)=some v:=rfl
theorem tY {a:AV} {v:eZ} (h:FC a=some v):a=eH v:=by
 unfold FC at h
 split at h
 ·cases h;rfl
 ·cases h
def CJ {α:Type} (f:AV->Option α):List AV->Option (List α)
 | []=>some []
 | a::l=>match f a,CJ f l with
   | some x,some xs=>some (x::xs)
   | _,_=>none
def HO {α:Type} (f:AV->Option α):AV->Option (List α)
 | .nils=>some []
 | .fz xs _=>if xs.length<=9223372036854775807 then CJ f xs else none
 | _=>none
def bR:AV->Option (List eZ):=HO FC
theorem FD {α:Type} {f:AV->Option α} {g:α->AV} (h:∀ x,f (g x)=some x):∀ l:List α,CJ f (l.map g)=some l
 | []=>rfl
 | x::l=>by simp only [List.map_cons,CJ,h,FD h l]
theorem FE {α:Type} {f:AV->Option α} {g:α->AV} (h:∀ a x,f a=some x->a=g x):∀ (l:List AV) (xs:List α),CJ f l=some xs->l=xs.map g
 | [],xs,e=>by simp [CJ]at e;subst e;rfl
 | a::l,xs,e=>by
   simp only [CJ]at e
   split at e
   ·rename_i x ys h1 h2
    simp at e;subst e
    rw [h _ _ h1,FE h l ys h2];rfl
   ·cases e
theorem cY {a:AV} {l:List eZ} (h:bR a=some l):Sl a (l.map eH):=by
 unfold bR HO at h
 split at h
 ·simp at h;subst h;exact ⟨.inl ⟨rfl,rfl⟩,Nat.zero_le _⟩
 ·rename_i xs c
  split at h
  ·rename_i hl
   have:=FE (g:=eH) (fun a x=>tY) xs l h
   subst this
   exact ⟨.inr ⟨c,rfl⟩,hl⟩
  ·cases h
 ·cases h
theorem SV {a:AV} {l:List eZ} (h:Sl a (l.map eH)):bR a=some l:=by
 rcases h.1 with ⟨rfl,e⟩ | ⟨c,rfl⟩
 ·rw [List.map_eq_nil_iff.1 e];rfl
 ·show (if _ then _ else _)=_
  rw [if_pos h.2,FD OT]
def tZ:AV->Option Fr
 | .agg [.int .i64 k,e,v]=>match bR e,bR v with
   | some e,some v=>some ⟨k,e,v⟩
   | _,_=>none
 | _=>none
def nO:AV->Option (List Fr):=HO tZ
def dQ:AV->Option Ob
 | .agg [.int .i64 f,.int .i64 n,vs,fs]=>match bR vs,nO fs with
   | some vs,some fs=>some ⟨f,n,vs,fs⟩
   | _,_=>none
 | _=>none
theorem mM {a:AV} {f:Fr} (h:tZ a=some f):∃ e v,a=.agg [.int .i64 f.node,e,v]/\bR e=some f.env/\bR v=some f.vals:=by
 unfold tZ at h
 split at h
 ·rename_i k e v
  split at h
  ·rename_i e' v' h1 h2
   cases h
   exact ⟨e,v,rfl,h1,h2⟩
  ·cases h
 ·cases h
theorem fH {a:AV} {o:Ob} (h:dQ a=some o):∃ vs fs,a=.agg [.int .i64 o.form,.int .i64 o.n,vs,fs]/\bR vs=some o.vals/\nO fs=some o.frs:=by
 unfold dQ at h
 split at h
 ·rename_i k n vs fs
  split at h
  ·rename_i e' v' h1 h2
   cases h
   exact ⟨vs,fs,rfl,h1,h2⟩
  ·cases h
 ·cases h
theorem OU {α:Type} {f:AV->Option α}:∀ (l:List AV) (xs:List α),CJ f l=some xs->l.length=xs.length/\∀ i (h:i<l.length) (h':i<xs.length),f l[i]=some xs[i]
 | [],xs,e=>by simp [CJ]at e;subst e;exact ⟨rfl,fun i h=>absurd h (by simp)⟩
 | a::l,xs,e=>by
   simp only [CJ]at e
   split at e
   ·rename_i x ys h1 h2
    simp at e;subst e
    obtain ⟨q1,q2⟩:=OU l ys h2
    refine ⟨by simp [q1],fun i h h'=>?_⟩
    cases i with
    | zero=>exact h1
    | succ i=>exact q2 i (by simpa using h) (by simpa using h')
   ·cases e
theorem vE {α:Type} {f:AV->Option α} {a:AV} {l:List α} (h:HO f a=some l):∃ xs,Sl a xs/\xs.length=l.length/\∀ i (h:i<xs.length) (h':i<l.length),f xs[i]=some l[i]:=by
 unfold HO at h
 split at h
 ·simp at h;subst h;exact ⟨[],⟨.inl ⟨rfl,rfl⟩,Nat.zero_le _⟩,rfl,fun i h=>absurd h (by simp)⟩
 ·rename_i xs c
  split at h
  ·rename_i hl
   obtain ⟨q1,q2⟩:=OU xs l h
   exact ⟨xs,⟨.inr ⟨c,rfl⟩,hl⟩,q1,q2⟩
  ·cases h
 ·cases h
theorem aX {a:AV} {l:List eZ} (h:bR a=some l):a.isCell=true:=(cY h).cell
theorem jO {α:Type} {f:AV->Option α} {a:AV} {l:List α} (h:HO f a=some l):a.isCell=true:=by
 obtain ⟨xs,h,_⟩:=vE h;exact h.cell
theorem aDq (l:List eZ):∀ x∈l.map eH,UnderE 0 x:=fun x hx=>by obtain ⟨a,_,rfl⟩:=List.mem_map.1 hx;exact ⟨2,rfl⟩
theorem eK {a:AV} {l:List eZ} (h:bR a=some l):UnderE 0 a:=LI (cY h) (aDq l)
theorem OV {a:AV} {f:Fr} (h:tZ a=some f):UnderE 0 a:=by
 obtain ⟨e,v,rfl,h1,h2⟩:=mM h
 refine fI fun x hx=>?_
 simp at hx
 rcases hx with rfl | rfl | rfl
 ·exact ⟨1,rfl⟩
 ·exact eK h1
 ·exact eK h2
theorem YW {a:AV} {l:List Fr} (h:nO a=some l):UnderE 0 a:=by
 obtain ⟨xs,h1,h2,h3⟩:=vE h
 refine LI h1 fun x hx=>?_
 obtain ⟨i,hi,rfl⟩:=List.mem_iff_getElem.1 hx
 exact OV (h3 i hi (by omega))
theorem lK {a:AV} {o:Ob} (h:dQ a=some o):UnderE 0 a:=by
 obtain ⟨vs,fs,rfl,h1,h2⟩:=fH h
 refine fI fun x hx=>?_
 simp at hx
 rcases hx with rfl | rfl | rfl | rfl
 ·exact ⟨1,rfl⟩
 ·exact ⟨1,rfl⟩
 ·exact eK h1
 ·exact YW h2
end
end Go.Proofs.YtajngkkihadgfaaGreat
/-
 The reference of images: what can be stored,and the bytes of an object.
-/
namespace Go.Proofs.YtajngkkihadgfaaGreat
open Go.Abs Go Go.Abs.TryzF
noncomputable section
set_option maxRecDepth 10000
theorem aJ {i:Nat} (h:i<9223372036854775807):IntKind.i64.wrap ((i:Int)+1)=((i+1:Nat):Int):=by rw [IntWalk.i64_in _ (by omega)];rfl
theorem bZ {α:Type} {l:List α} {i:Nat} {d:α} (h:i<l.length):l.getD i d=l[i]:=by simp [List.getD_eq_getElem?_getD,h]
theorem gK {α:Type} {l:List α} {i:Nat} {d:α} (h:i<l.length):l.take (i+1)=l.take i++[l.getD i d]:=by rw [bZ h];exact List.take_succ_eq_append_getElem h
def RA:List AV->Option AV
 | [.int .i64 n,.int .i64 l,.int .i64 h]=>some (.bool (jE n l h))
 | _=>none
theorem bW {n l h:Int}:RA [.int .i64 n,.int .i64 l,.int .i64 h]=some (.bool (jE n l h)):=rfl
theorem rIn_ok:Abs.Ok Tryz.prog 62 RA:=by
 intro args v hg
 unfold RA at hg
 split at hg<;>cases hg
 rename_i n l h
 refine aR (L:=[]) aH aL (by kernel_rfl) Tryz.func62 Tryz.ntmps62 Tryz.results62 rfl rfl (aC aO (aC aO (aC aO aE))) cA ?_
 by_cases h1:l<=n
 ·simp +contextual +decide (maxSteps:=1000000) only [↓ wP,wQ,ne_eq,h1]
  simp [jE,h1]
 ·simp +contextual +decide (maxSteps:=1000000) only [↓ wP,wQ,ne_eq,h1]
  simp [jE,h1]
def xJ:List AV->Option AV
 | [a]=>(FC a).map fun v=>.bool (jC v)
 | _=>none
theorem VZ {v:eZ}:Und 0 (eH v):=(fI fun x hx=>by simp at hx;rcases hx with rfl | rfl<;>exact ⟨1,rfl⟩:UnderE 0 (eH v)).und
set_option maxHeartbeats 1000000 in
theorem rvalue_ok:Abs.Ok Tryz.prog 130 xJ:=by
 intro args v hg
 match args,hg with
 | [a],hg=>
   obtain ⟨⟨k,n⟩,hl,rfl⟩:=Option.map_eq_some_iff.1 hg
   cases tY hl
   refine aR (L:=[ent 62 RA]) (elist_cons rIn_ok.ent aH) aL (by kernel_rfl) Tryz.func130 Tryz.ntmps130 Tryz.results130 rfl rfl (aC VZ aE) cA ?_
   by_cases h1:k=1
   ·subst h1;simp +contextual +decide (maxSteps:=1000000) only [↓ wP,wQ,tf,Nat.reduceAdd,ne_eq,eH,bW]
    rfl
   by_cases h2:k=2
   ·subst h2;simp +contextual +decide (maxSteps:=1000000) only [↓ wP,wQ,tf,Nat.reduceAdd,ne_eq,eH,bW]
    rfl
   by_cases h3:k=3
   ·subst h3;simp +contextual +decide (maxSteps:=1000000) only [↓ wP,wQ,tf,Nat.reduceAdd,ne_eq,eH]
    rfl
   by_cases h4:k=4
   ·subst h4;simp +contextual +decide (maxSteps:=1000000) only [↓ wP,wQ,tf,Nat.reduceAdd,ne_eq,eH,bW]
    rfl
   by_cases h5:k=5
   ·subst h5;simp +contextual +decide (maxSteps:=1000000) only [↓ wP,wQ,tf,Nat.reduceAdd,ne_eq,eH,bW]
    rfl
   simp +contextual +decide (maxSteps:=1000000) only [↓ wP,wQ,tf,Nat.reduceAdd,ne_eq,eH,h1,h2,h3,h4,h5]
   simp [jC,h1,h2,h3,h4,h5]
def CW:List AV->Option AV
 | [a]=>(bR a).map fun l=>.bool (dH l)
 | _=>none
theorem xK {a:AV} {l:List eZ} (h:bR a=some l):CW [a]=some (.bool (dH l)):=by simp [CW,h]
theorem rvalues_ok:Abs.Ok Tryz.prog 88 CW:=by
 intro args v hg
 match args,hg with
 | [a],hg=>
   obtain ⟨l,hl,rfl⟩:=Option.map_eq_some_iff.1 hg
   have ha:=cY hl
   have hlen:=ha.2
   simp only [List.length_map]at hlen
   refine aR (L:=[ent 130 xJ]) (elist_cons rvalue_ok.ent aH) aL (by kernel_rfl) Tryz.func88 Tryz.ntmps88 Tryz.results88 rfl rfl (aC (eK hl).und aE) cA ?_
   simp +contextual +decide (maxSteps:=1000000) only [↓ wP,wQ]
   refine bE (fun i e=>∃ t,e=⟨19,none,88,t,[],⟨0,0,.leaf⟩,.no⟩/\t.val 0=a/\t.val 3=.int .i64 (i:Nat)/\i<=l.length/\(l.take i).all jC=true) (fun i=>l.length-i) 0 ⟨_,rfl,by simp +decide only [↓ aB,dJ,cL],by simp +decide only [↓ aB];rfl,Nat.zero_le _,rfl⟩ ?_
   rintro i _ ⟨t,rfl,t0,t3,hi,hok⟩
   by_cases hlt:i<l.length
   ·have d1:(i:Int)<(l.length:Nat):=by omega
    have d3:(0:Int)<=i:=by omega
    have d4:((i:Int)).toNat=i:=by omega
    have d5:=aJ (i:=i) (by omega)
    have htk:=gK (d:=default) hlt
    have hm:l.getD i default∈l:=by rw [bZ hlt];exact List.getElem_mem _
    cases hv:jC (l.getD i default) with
    | true=>
      simp +contextual +decide (maxSteps:=1000000) only [↓ wP,wQ,tf,Nat.reduceAdd,ne_eq,ha.len,ha.idx,t0,t3,d1,d3,d4,d5,fT lJ,show (eH (l.getD i default))=.agg [.int .i64 (l.getD i default).1,.int .i64 (l.getD i default).2] from rfl,show xJ [.agg [.int .i64 (l.getD i default).1,.int .i64 (l.getD i default).2]]=some (.bool (jC (l.getD i default))) from rfl,hv]
      exact ⟨i+1,by show _-_<_-_;omega,_,rfl,by simp +decide only [↓ aB,t0],by simp +decide only [↓ aB],hlt,by rw [htk,List.all_append,hok];simp only [List.all_cons,hv,List.all_nil];rfl⟩
    | false=>
      simp +contextual +decide (maxSteps:=1000000) only [↓ wP,wQ,tf,Nat.reduceAdd,ne_eq,ha.len,ha.idx,t0,t3,d1,d3,d4,fT lJ,show (eH (l.getD i default))=.agg [.int .i64 (l.getD i default).1,.int .i64 (l.getD i default).2] from rfl,show xJ [.agg [.int .i64 (l.getD i default).1,.int .i64 (l.getD i default).2]]=some (.bool (jC (l.getD i default))) from rfl,hv]
      have:l.all jC=false:=by rw [List.all_eq_false];exact ⟨_,hm,by rw [hv];simp⟩
      rw [dH,this,Bool.and_false]
   ·have:i=l.length:=by omega
    subst this
    rw [List.take_length]at hok
    have d1:¬ ((l.length:Nat):Int)<(l.length:Nat):=by omega
    have h1:(((l.length:Nat):Int)<=30)=(l.length<=30):=propext (by omega)
    simp +contextual +decide (maxSteps:=1000000) only [↓ wP,wQ,tf,ne_eq,ha.len,t0,t3,d1,h1]
    rw [dH,hok,Bool.and_true]
end
end Go.Proofs.YtajngkkihadgfaaGreat
/-
 The reference of images: the bytes of numbers,values,objects.
-/
namespace Go.Proofs.YtajngkkihadgfaaGreat
open Go.Abs Go Go.Abs.TryzF
noncomputable section
set_option maxRecDepth 10000
theorem cM {n:Nat} (h:n<9223372036854775808):IntKind.i64.wrap (n:Int)=(n:Int):=IntWalk.i64_in _ (by omega)
theorem nP {a:Nat}:IntKind.u8.wrap (a:Int)=((a%256:Nat):Int):=by simp [IntKind.wrap,IntKind.bits,IntKind.signed]
theorem KU {a:Int} (h:0<=a):IntKind.u8.wrap a=((a.toNat%256:Nat):Int):=by
 have:((a.toNat:Nat):Int)=a:=by omega
 rw [<-this,nP];simp
theorem gL {n m:Nat}:Int.tmod (n:Int) (m:Int)=((n%m:Nat):Int):=by rw [Int.tmod_eq_emod_of_nonneg (by omega)];simp
theorem gM {n m:Nat}:Int.tdiv (n:Int) (m:Int)=((n/m:Nat):Int):=by rw [Int.tdiv_eq_ediv_of_nonneg (by omega)];simp
theorem CX {g c:Nat} {d:Option ORes} (hc:c<256):WE (some (aU g [.int .u8 (c:Nat)])) g 1 d=some (.val (.str [c])):=AR (l:=[c]) rfl (fun b hb=>by simp at hb;omega)
def qC:List AV->Option AV
 | [.int .i64 n]=>if 0<=n/\n<9223372036854775808 then some (.str (bL n.toNat)) else none
 | _=>none
theorem fZ {n:Nat} (h:n<9223372036854775808):qC [.int .i64 (n:Nat)]=some (.str (bL n)):=by
 simp only [qC];rw [if_pos (by omega)];simp
set_option maxHeartbeats 1000000 in
theorem rnumber_ok:Abs.Ok Tryz.prog 91 qC:=by
 intro args v hg
 unfold qC at hg
 split at hg
 ·rename_i n
  split at hg
  ·rename_i hn
   cases hg
   obtain ⟨m0,rfl⟩:∃ m:Nat,n=(m:Int):=⟨n.toNat,by omega⟩
   rw [Int.toNat_natCast]
   have hlen:=dZ 9 m0 (by omega) (by omega)
   refine aR (L:=[]) aH aL (by kernel_rfl) Tryz.func91 Tryz.ntmps91 Tryz.results91 rfl rfl (aC aO aE) cC ?_
   simp +contextual +decide (maxSteps:=1000000) only [↓ wP,wQ]
   refine bE (fun m e=>∃ t n low o out,e=⟨22,none,91,t,[],⟨n,low,o⟩,.no⟩/\t.val 0=.int .i64 (m:Nat)/\t.val 3=.str out/\out++bL m=bL m0/\m<=m0) (fun m=>m) m0
    ⟨_,0,0,_,[],rfl,by simp +decide only [↓ aB,dJ,cL],by simp +decide only [↓ aB],rfl,Nat.le_refl _⟩ ?_
   rintro m _ ⟨t,n,low,o,out,rfl,t0,t3,hout,hm⟩
   have hle:out.length+(bL m).length<=9:=by rw [<-List.length_append,hout];exact hlen
   have d1:(127<(m:Int))=(127<m):=propext (by omega)
   by_cases hlt:127<m
   ·have hu:bL m=(m%128+128)::bL (m/128):=by rw [bL,dif_pos hlt]
    have e1:Int.tmod (m:Int) 128=((m%128:Nat):Int):=gL
    have e2:IntKind.i64.wrap (((m%128:Nat):Int)+128)=((m%128+128:Nat):Int):=by rw [IntWalk.i64_in _ (by omega)];omega
    have e3:IntKind.u8.wrap ((m%128+128:Nat):Int)=((m%128+128:Nat):Int):=by rw [nP];omega
    have e4:IntKind.i64.wrap (Int.tdiv (m:Int) 128)=((m/128:Nat):Int):=by rw [show Int.tdiv (m:Int) 128=((m/128:Nat):Int) from gM,cM (by omega)]
    have hcv:∀ {g:Nat} {d:Option ORes},WE (some (aU g [.int .u8 ((m%128+128:Nat):Int)])) g 1 d=some (.val (.str [m%128+128])):=CX (by omega)
    have hadd:out.length + [m%128+128].length<9223372036854775808:=by simp;omega
    simp +contextual +decide (maxSteps:=1000000) only [↓ wP,wQ,tf,ne_eq,t0,t3,d1,hlt,e1,e2,e3,e4,Nat.mul_one,Nat.zero_add,fQ,hcv,cS,aW hadd]
    exact ⟨m/128,by show m/128<m;omega,_,n+1,_,_,out++[m%128+128],rfl,by simp +decide only [↓ aB],by simp +decide only [↓ aB],by rw [<-hout,hu,List.append_assoc];rfl,by omega⟩
   ·have hu:bL m=[m]:=by rw [bL,dif_neg hlt]
    have e3:IntKind.u8.wrap (m:Int)=(m:Int):=by rw [nP];omega
    have hcv:∀ {g:Nat} {d:Option ORes},WE (some (aU g [.int .u8 (m:Int)])) g 1 d=some (.val (.str [m])):=CX (by omega)
    have hadd:out.length + [m].length<9223372036854775808:=by simp;omega
    simp +contextual +decide (maxSteps:=1000000) only [↓ wP,wQ,tf,ne_eq,t0,t3,d1,hlt,e3,Nat.mul_one,Nat.zero_add,fQ,hcv,cS,aW hadd]
    rw [<-hout,hu]
  ·cases hg
 ·cases hg
def sN:List AV->Option AV
 | [.int .i64 n]=>if dF n=true then some (.str (dY n)) else none
 | _=>none
theorem pF {n:Int} (h:dF n=true):sN [.int .i64 n]=some (.str (dY n)):=by simp [sN,h]
theorem rsigned_ok:Abs.Ok Tryz.prog 89 sN:=by
 intro args v hg
 unfold sN at hg
 split at hg
 ·rename_i n
  split at hg
  ·rename_i hn
   cases hg
   have hn':=hn
   simp only [dF,jE,Bool.and_eq_true,decide_eq_true_eq]at hn'
   refine aR (L:=[ent 91 qC]) (elist_cons rnumber_ok.ent aH) aL (by kernel_rfl) Tryz.func89 Tryz.ntmps89 Tryz.results89 rfl rfl (aC aO aE) cC ?_
   by_cases h0:n<0
   ·have e1:IntKind.i64.wrap (-2*n)=-2*n:=IntWalk.i64_in _ (by omega)
    have e2:IntKind.i64.wrap (-2*n-1)=((JD n:Nat):Int):=by rw [IntWalk.i64_in _ (by omega),JD,if_pos h0];omega
    have e3:=fZ (n:=JD n) (by have:=KT hn;omega)
    simp +contextual +decide (maxSteps:=1000000) only [↓ wP,wQ,ne_eq,h0,e1,e2,e3]
    rfl
   ·have e2:IntKind.i64.wrap (2*n)=((JD n:Nat):Int):=by rw [IntWalk.i64_in _ (by omega),JD,if_neg h0];omega
    have e3:=fZ (n:=JD n) (by have:=KT hn;omega)
    simp +contextual +decide (maxSteps:=1000000) only [↓ wP,wQ,ne_eq,h0,e2,e3]
    rfl
  ·cases hg
 ·cases hg
theorem KV {v:eZ} (h:jC v=true):dF v.2=true/\1<=v.1/\v.1<=5:=by
 unfold jC at h
 simp only [dF,jE,Bool.and_eq_true,decide_eq_true_eq]at h ⊢
 split at h
 ·exact ⟨by simpa using h,by omega,by omega⟩
 ·split at h
  ·simp at h;exact ⟨by omega,by omega,by omega⟩
  ·split at h
   ·simp at h;exact ⟨by omega,by omega,by omega⟩
   ·split at h
    ·simp at h;exact ⟨by omega,by omega,by omega⟩
    ·split at h
     ·simp at h;exact ⟨by omega,by omega,by omega⟩
     ·cases h
theorem yT {v:eZ} (h:jC v=true):(nZ v).length<=6:=by
 have:=jH (KV h).1
 simp [nZ];omega
theorem eO {α:Type} {f:α->List Nat} {k:Nat}:∀ (l:List α),(∀ x∈l,(f x).length<=k)->(l.flatMap f).length<=l.length*k
 | [],_=>by simp
 | x::l,h=>by
   have h1:=h x (List.mem_cons_self ..)
   have h2:=eO l fun y hy=>h y (List.mem_cons_of_mem _ hy)
   simp only [List.flatMap_cons,List.length_append,List.length_cons,Nat.succ_mul];omega
theorem mN {l:List eZ} (h:dH l=true):l.length<=30/\∀ v∈l,jC v=true:=by
 simp only [dH,Bool.and_eq_true,decide_eq_true_eq]at h
 exact ⟨h.1,List.all_eq_true.1 h.2⟩
theorem pG {l:List eZ} (h:dH l=true):(eX l).length<=185:=by
 obtain ⟨h1,h2⟩:=mN h
 have e1:=dZ 1 l.length (by omega) (by omega)
 have e2:=eO (f:=nZ) (k:=6) l fun x hx=>yT (h2 x hx)
 simp only [eX,List.length_append];omega
def OW:List AV->Option AV
 | [a]=>match bR a with
   | some l=>if dH l=true then some (.str (eX l)) else none
   | none=>none
 | _=>none
theorem FG {a:AV} {l:List eZ} (h:bR a=some l) (h':dH l=true):OW [a]=some (.str (eX l)):=by simp [OW,h,h']
set_option maxHeartbeats 1000000 in
theorem rlist_ok:Abs.Ok Tryz.prog 90 OW:=by
 intro args v hg
 unfold OW at hg
 split at hg
 ·rename_i a
  split at hg
  ·rename_i l hl
   split at hg
   ·rename_i hok
    cases hg
    have ha:=cY hl
    obtain ⟨hl30,hall⟩:=mN hok
    refine aR (L:=[ent 91 qC,ent 89 sN]) (elist_cons rnumber_ok.ent (elist_cons rsigned_ok.ent aH)) (fun _=>([15],[])) (by kernel_rfl) Tryz.func90 Tryz.ntmps90 Tryz.results90 rfl rfl (aC (eK hl).und aE) cC ?_
    have e0:=fZ (n:=l.length) (by omega)
    simp +contextual +decide (maxSteps:=1000000) only [↓ wP,wQ,tf,ne_eq,ha.len,e0]
    refine bE (fun i e=>∃ t n low o,e=⟨32,none,90,t,[],⟨n,low,o⟩,.no⟩/\t.val 0=a/\t.val 3=.str (bL l.length++(l.take i).flatMap nZ)/\t.val 4=.int .i64 (i:Nat)/\i<=l.length) (fun i=>l.length-i) 0
     ⟨_,0,0,_,rfl,by simp +decide only [↓ aB,dJ,cL],by simp only [List.take_zero,List.flatMap_nil,List.append_nil];simp +decide only [↓ aB],by simp +decide only [↓ aB];rfl,Nat.zero_le _⟩ ?_
    rintro i _ ⟨t,n,low,o,rfl,t0,t3,t4,hi⟩
    by_cases hlt:i<l.length
    ·have d1:(i:Int)<(l.length:Nat):=by omega
     have d3:(0:Int)<=i:=by omega
     have d4:((i:Int)).toNat=i:=by omega
     have d5:=aJ (i:=i) (by omega)
     have htk:=gK (d:=default) hlt
     have hm:l.getD i default∈l:=by rw [bZ hlt];exact List.getElem_mem _
     obtain ⟨q1,q2,q3⟩:=KV (hall _ hm)
     have hvl:=yT (hall _ hm)
     have hsum:((l.take (i+1)).flatMap nZ).length<=30*6:=Nat.le_trans (eO (k:=6) _ fun x hx=>yT (hall x (List.mem_of_mem_take hx))) (by rw [List.length_take];omega)
     have hnl:=dZ 1 l.length (by omega) (by omega)
     have hpre:((l.take i).flatMap nZ).length<=30*6:=Nat.le_trans (eO (k:=6) _ fun x hx=>yT (hall x (List.mem_of_mem_take hx))) (by rw [List.length_take];omega)
     generalize hxd:l.getD i default=x at *
     obtain ⟨k,m⟩:=x
     have e3:=KU (a:=k) (by simp only at q2;omega)
     have hcv:∀ {g:Nat} {d:Option ORes},WE (some (aU g [.int .u8 ((k.toNat%256:Nat):Int)])) g 1 d=some (.val (.str [k.toNat%256])):=CX (by omega)
     have hsg:=pF (n:=m) q1
     have hsl:=jH (n:=m) q1
     have hadd:(bL l.length++(l.take i).flatMap nZ).length + [k.toNat%256].length<9223372036854775808:=by simp only [List.length_append,List.length_cons,List.length_nil];omega
     have hadd2:(bL l.length++(l.take i).flatMap nZ++[k.toNat%256]).length+(dY m).length<9223372036854775808:=by simp only [List.length_append,List.length_cons,List.length_nil];omega
     generalize hpr:bL l.length++(l.take i).flatMap nZ=pre at *
     simp +contextual +decide (maxSteps:=1000000) only [↓ wP,wQ,tf,Nat.reduceAdd,ne_eq,ha.len,ha.idx,t0,t3,t4,d1,d3,d4,d5,fT lJ,hxd,eH,e3,fQ,hcv,hsg,cS,Nat.mul_one,Nat.zero_add,aW hadd,aW hadd2]
     refine ⟨i+1,by show _-_<_-_;omega,_,n+1,_,_,rfl,by simp +decide only [↓ aB,t0],?_,by simp +decide only [↓ aB],hlt⟩
     rw [htk,List.flatMap_append]
     simp +decide only [↓ aB]
     simp only [List.flatMap_cons,List.flatMap_nil,List.append_nil,<-List.append_assoc]
     rw [hpr,nZ,List.append_assoc];rfl
    ·have:i=l.length:=by omega
     subst this
     rw [List.take_length]at t3
     have d1:¬ ((l.length:Nat):Int)<(l.length:Nat):=by omega
     simp +contextual +decide (maxSteps:=1000000) only [↓ wP,wQ,tf,ne_eq,ha.len,t0,t3,t4,d1]
     rfl
   ·cases hg
  ·cases hg
 ·cases hg
end
end Go.Proofs.YtajngkkihadgfaaGreat
