/-
  Objects and their bytes, in plain words; how they lie in the machine.
-/
import Derived.Test.YtajngkkihadgfaaEp
import Derived.Test.YtajngkkihadgfaaTf
import Derived.Test.YtajngkkihadgfaaEo
set_option linter.unusedVariables false
set_option linter.unusedSimpArgs false
namespace Go.Proofs.Ytajngkkihadgfaa
open Go.Abs Go
noncomputable section
set_option maxRecDepth 10000
abbrev eA:=Int × Int
structure Fr where
 node:Int
 env:List eA
 vals:List eA
 deriving DecidableEq
structure Ob where
 form:Int
 n:Int
 vals:List eA
 frs:List Fr
 deriving DecidableEq
instance:Inhabited Fr:=⟨⟨0,[],[]⟩⟩
instance:Inhabited Ob:=⟨⟨0,0,[],[]⟩⟩
def iU (n l h:Int):Bool:=decide (l<=n)&&decide (n<=h)
def cS (n:Int):Bool:=iU n (-1073741824) 1073741824
def dF (v:eA):Bool:=if v.1=1 then cS v.2 else if v.1=2 then iU v.2 0 1 else if v.1=3 then decide (v.2=0) else if v.1=4 then iU v.2 0 1073741824 else if v.1=5 then iU v.2 0 119 else false
def eF (l:List eA):Bool:=decide (l.length<=30)&&l.all dF
def nP (f:Fr):Bool:=iU f.node 0 1073741824&&eF f.env&&eF f.vals
def zV (l:List Fr):Bool:=decide (l.length<=40)&&l.all nP
def gV (o:Ob):Bool:=iU o.form 1 6&&cS o.n&&eF o.vals&&zV o.frs
def bY (n:Nat):List Nat:=if h:127<n then (n%128+128)::bY (n/128) else [n]
 termination_by n
 decreasing_by omega
def UA (n:Int):Nat:=if n<0 then (-2*n-1).toNat else (2*n).toNat
def kC (n:Int):List Nat:=bY (UA n)
def sL (v:eA):List Nat:=(v.1.toNat%256)::kC v.2
def jV (l:List eA):List Nat:=bY l.length++l.flatMap sL
def AS (f:Fr):List Nat:=bY f.node.toNat++jV f.env++jV f.vals
def fZ (o:Ob):List Nat:=(o.form.toNat%256)::(kC o.n++jV o.vals++bY o.frs.length++o.frs.flatMap AS)
theorem jE (n:Nat):By (bY n):=by
 induction n using Nat.strongRecOn with
 | _ n ih=>
   unfold bY
   split
   ·intro b hb
    rcases List.mem_cons.1 hb with rfl | hb
    ·omega
    ·exact ih (n/128) (by omega) b hb
   ·intro b hb
    simp at hb;omega
theorem hG:∀ (k n:Nat),n<128 ^ k->0<k->(bY n).length<=k
 | 0,_,_,h=>absurd h (by omega)
 | k+1,n,hn,_=>by
   unfold bY
   split
   ·rename_i h
    cases k with
    | zero=>simp at hn;omega
    | succ k=>
      have:=hG (k+1) (n/128) (by rw [Nat.pow_succ]at hn;exact Nat.div_lt_of_lt_mul (by rw [Nat.mul_comm];exact hn)) (by omega)
      simp only [List.length_cons];omega
   ·simp
theorem aBs {n:Int} (h:cS n=true):UA n<4294967296:=by
 simp only [cS,iU,Bool.and_eq_true,decide_eq_true_eq]at h
 unfold UA
 split<;>omega
theorem qB {n:Int} (h:cS n=true):(kC n).length<=5:=hG 5 _ (by have:=aBs h;omega) (by omega)
def fJ (v:eA):AV:=.agg [.int .i64 v.1,.int .i64 v.2]
theorem aBt (v:eA):(fJ v).cells.length=2:=rfl
def CY:AV->Option eA
 | .agg [.int .i64 k,.int .i64 n]=>some (k,n)
 | _=>none
theorem MP (v:eA):CY (fJ v)=some v:=rfl
theorem zW {a:AV} {v:eA} (h:CY a=some v):a=fJ v:=by
 unfold CY at h
 split at h
 ·cases h;rfl
 ·cases h
def AT {α:Type} (f:AV->Option α):List AV->Option (List α)
 | []=>some []
 | a::l=>match f a,AT f l with
   | some x,some xs=>some (x::xs)
   | _,_=>none
def EY {α:Type} (f:AV->Option α):AV->Option (List α)
 | .nils=>some []
 | .fz xs _=>if xs.length<=9223372036854775807 then AT f xs else none
 | _=>none
def cE:AV->Option (List eA):=EY CY
theorem CZ {α:Type} {f:AV->Option α} {g:α->AV} (h:∀ x,f (g x)=some x):∀ l:List α,AT f (l.map g)=some l
 | []=>rfl
 | x::l=>by simp only [List.map_cons,AT,h,CZ h l]
theorem DA {α:Type} {f:AV->Option α} {g:α->AV} (h:∀ a x,f a=some x->a=g x):∀ (l:List AV) (xs:List α),AT f l=some xs->l=xs.map g
 | [],xs,e=>by simp [AT]at e;subst e;rfl
 | a::l,xs,e=>by
   simp only [AT]at e
   split at e
   ·rename_i x ys h1 h2
    simp at e;subst e
    rw [h _ _ h1,DA h l ys h2];rfl
   ·cases e
theorem hH {a:AV} {l:List eA} (h:cE a=some l):Sl a (l.map fJ):=by
 unfold cE EY at h
 split at h
 ·simp at h;subst h;exact ⟨.inl ⟨rfl,rfl⟩,Nat.zero_le _⟩
 ·rename_i xs c
  split at h
  ·rename_i hl
   have:=DA (g:=fJ) (fun a x=>zW) xs l h
   subst this
   exact ⟨.inr ⟨c,rfl⟩,hl⟩
  ·cases h
 ·cases h
theorem QM {a:AV} {l:List eA} (h:Sl a (l.map fJ)):cE a=some l:=by
 rcases h.1 with ⟨rfl,e⟩ | ⟨c,rfl⟩
 ·rw [List.map_eq_nil_iff.1 e];rfl
 ·show (if _ then _ else _)=_
  rw [if_pos h.2,CZ MP]
def sM:AV->Option Fr
 | .agg [.int .i64 k,e,v]=>match cE e,cE v with
   | some e,some v=>some ⟨k,e,v⟩
   | _,_=>none
 | _=>none
def nQ:AV->Option (List Fr):=EY sM
def fG:AV->Option Ob
 | .agg [.int .i64 f,.int .i64 n,vs,fs]=>match cE vs,nQ fs with
   | some vs,some fs=>some ⟨f,n,vs,fs⟩
   | _,_=>none
 | _=>none
theorem nR {a:AV} {f:Fr} (h:sM a=some f):∃ e v,a=.agg [.int .i64 f.node,e,v]/\cE e=some f.env/\cE v=some f.vals:=by
 unfold sM at h
 split at h
 ·rename_i k e v
  split at h
  ·rename_i e' v' h1 h2
   cases h
   exact ⟨e,v,rfl,h1,h2⟩
  ·cases h
 ·cases h
theorem jL {a:AV} {o:Ob} (h:fG a=some o):∃ vs fs,a=.agg [.int .i64 o.form,.int .i64 o.n,vs,fs]/\cE vs=some o.vals/\nQ fs=some o.frs:=by
 unfold fG at h
 split at h
 ·rename_i k n vs fs
  split at h
  ·rename_i e' v' h1 h2
   cases h
   exact ⟨vs,fs,rfl,h1,h2⟩
  ·cases h
 ·cases h
theorem MQ {α:Type} {f:AV->Option α}:∀ (l:List AV) (xs:List α),AT f l=some xs->l.length=xs.length/\∀ i (h:i<l.length) (h':i<xs.length),f l[i]=some xs[i]
 | [],xs,e=>by simp [AT]at e;subst e;exact ⟨rfl,fun i h=>absurd h (by simp)⟩
 | a::l,xs,e=>by
   simp only [AT]at e
   split at e
   ·rename_i x ys h1 h2
    simp at e;subst e
    obtain ⟨q1,q2⟩:=MQ l ys h2
    refine ⟨by simp [q1],fun i h h'=>?_⟩
    cases i with
    | zero=>exact h1
    | succ i=>exact q2 i (by simpa using h) (by simpa using h')
   ·cases e
theorem wX {α:Type} {f:AV->Option α} {a:AV} {l:List α} (h:EY f a=some l):∃ xs,Sl a xs/\xs.length=l.length/\∀ i (h:i<xs.length) (h':i<l.length),f xs[i]=some l[i]:=by
 unfold EY at h
 split at h
 ·simp at h;subst h;exact ⟨[],⟨.inl ⟨rfl,rfl⟩,Nat.zero_le _⟩,rfl,fun i h=>absurd h (by simp)⟩
 ·rename_i xs c
  split at h
  ·rename_i hl
   obtain ⟨q1,q2⟩:=MQ xs l h
   exact ⟨xs,⟨.inr ⟨c,rfl⟩,hl⟩,q1,q2⟩
  ·cases h
 ·cases h
theorem cL {a:AV} {l:List eA} (h:cE a=some l):a.isCell=true:=(hH h).cell
theorem iJ {α:Type} {f:AV->Option α} {a:AV} {l:List α} (h:EY f a=some l):a.isCell=true:=by
 obtain ⟨xs,h,_⟩:=wX h;exact h.cell
theorem aBu (l:List eA):∀ x∈l.map fJ,UnderE 0 x:=fun x hx=>by obtain ⟨a,_,rfl⟩:=List.mem_map.1 hx;exact ⟨2,rfl⟩
theorem qY {a:AV} {l:List eA} (h:cE a=some l):UnderE 0 a:=pJ (hH h) (aBu l)
theorem MR {a:AV} {f:Fr} (h:sM a=some f):UnderE 0 a:=by
 obtain ⟨e,v,rfl,h1,h2⟩:=nR h
 refine fD fun x hx=>?_
 simp at hx
 rcases hx with rfl | rfl | rfl
 ·exact ⟨1,rfl⟩
 ·exact qY h1
 ·exact qY h2
theorem WN {a:AV} {l:List Fr} (h:nQ a=some l):UnderE 0 a:=by
 obtain ⟨xs,h1,h2,h3⟩:=wX h
 refine pJ h1 fun x hx=>?_
 obtain ⟨i,hi,rfl⟩:=List.mem_iff_getElem.1 hx
 exact MR (h3 i hi (by omega))
theorem wY {a:AV} {o:Ob} (h:fG a=some o):UnderE 0 a:=by
 obtain ⟨vs,fs,rfl,h1,h2⟩:=jL h
 refine fD fun x hx=>?_
 simp at hx
 rcases hx with rfl | rfl | rfl | rfl
 ·exact ⟨1,rfl⟩
 ·exact ⟨1,rfl⟩
 ·exact qY h1
 ·exact WN h2
end
end Go.Proofs.Ytajngkkihadgfaa
/-
 The reference of images: what can be stored,and the bytes of an object.
-/
namespace Go.Proofs.Ytajngkkihadgfaa
open Go.Abs Go Go.Abs.TryF
noncomputable section
set_option maxRecDepth 10000
theorem bH {i:Nat} (h:i<9223372036854775807):IntKind.i64.wrap ((i:Int)+1)=((i+1:Nat):Int):=by rw [IntWalk.i64_in _ (by omega)];rfl
theorem aT {α:Type} {l:List α} {i:Nat} {d:α} (h:i<l.length):l.getD i d=l[i]:=by simp [List.getD_eq_getElem?_getD,h]
theorem yV {α:Type} {l:List α} {i:Nat} {d:α} (h:i<l.length):l.take (i+1)=l.take i++[l.getD i d]:=by rw [aT h];exact List.take_succ_eq_append_getElem h
def inV:List AV->Option AV
 | [.int .i64 n,.int .i64 l,.int .i64 h]=>some (.bool (iU n l h))
 | _=>none
theorem jM {n l h:Int}:inV [.int .i64 n,.int .i64 l,.int .i64 h]=some (.bool (iU n l h)):=rfl
def QN:List AV->Option AV
 | [a]=>(CY a).map fun v=>.bool (dF v)
 | _=>none
theorem wZ {v:eA}:Und 0 (fJ v):=(fD fun x hx=>by simp at hx;rcases hx with rfl | rfl<;>exact ⟨1,rfl⟩:UnderE 0 (fJ v)).und
end
end Go.Proofs.Ytajngkkihadgfaa
/-
 The reference of images: the bytes of numbers,values,objects.
-/
namespace Go.Proofs.Ytajngkkihadgfaa
open Go.Abs Go Go.Abs.TryF
noncomputable section
set_option maxRecDepth 10000
theorem cF {n:Nat} (h:n<9223372036854775808):IntKind.i64.wrap (n:Int)=(n:Int):=IntWalk.i64_in _ (by omega)
theorem vE {a:Nat}:IntKind.u8.wrap (a:Int)=((a%256:Nat):Int):=by simp [IntKind.wrap,IntKind.bits,IntKind.signed]
theorem aBv {a:Int} (h:0<=a):IntKind.u8.wrap a=((a.toNat%256:Nat):Int):=by
 have:((a.toNat:Nat):Int)=a:=by omega
 rw [<-this,vE];simp
theorem dB {n m:Nat}:Int.tmod (n:Int) (m:Int)=((n%m:Nat):Int):=by rw [Int.tmod_eq_emod_of_nonneg (by omega)];simp
theorem iY {n m:Nat}:Int.tdiv (n:Int) (m:Int)=((n/m:Nat):Int):=by rw [Int.tdiv_eq_ediv_of_nonneg (by omega)];simp
theorem UB {v:eA} (h:dF v=true):cS v.2=true/\1<=v.1/\v.1<=5:=by
 unfold dF at h
 simp only [cS,iU,Bool.and_eq_true,decide_eq_true_eq]at h ⊢
 split at h
 ·exact ⟨by simpa using h,by omega,by omega⟩
 ·split at h
  ·simp at h;exact ⟨by omega,by omega,by omega⟩
  ·split at h
   ·simp at h;exact ⟨by omega,by omega,by omega⟩
   ·split at h
    ·simp at h;exact ⟨by omega,by omega,by omega⟩
    ·split at h
     ·simp at h;exact ⟨by omega,by omega,by omega⟩
     ·cases h
theorem aBw {v:eA} (h:dF v=true):(sL v).length<=6:=by
 have:=qB (UB h).1
 simp [sL];omega
theorem gA {α:Type} {f:α->List Nat} {k:Nat}:∀ (l:List α),(∀ x∈l,(f x).length<=k)->(l.flatMap f).length<=l.length*k
 | [],_=>by simp
 | x::l,h=>by
   have h1:=h x (List.mem_cons_self ..)
   have h2:=gA l fun y hy=>h y (List.mem_cons_of_mem _ hy)
   simp only [List.flatMap_cons,List.length_append,List.length_cons,Nat.succ_mul];omega
theorem gE {l:List eA} (h:eF l=true):l.length<=30/\∀ v∈l,dF v=true:=by
 simp only [eF,Bool.and_eq_true,decide_eq_true_eq]at h
 exact ⟨h.1,List.all_eq_true.1 h.2⟩
theorem xA {l:List eA} (h:eF l=true):(jV l).length<=185:=by
 obtain ⟨h1,h2⟩:=gE h
 have e1:=hG 1 l.length (by omega) (by omega)
 have e2:=gA (f:=sL) (k:=6) l fun x hx=>aBw (h2 x hx)
 simp only [jV,List.length_append];omega
end
end Go.Proofs.Ytajngkkihadgfaa
