/-
  Objects and their bytes, in plain words; how they lie in the machine.
-/
import Derived.Test.YtajngkkihadgfaaEp
import Derived.Test.YtajngkkihadgfaaTf
import Derived.Test.YtajngkkihadgfaaEo
set_option linter.unusedVariables false
set_option linter.unusedSimpArgs false
namespace Go.Proofs.Ytajngkkihadgfaa
open Go.Abs Go
noncomputable section
set_option maxRecDepth 10000
abbrev eN:=Int × Int
structure Fr where
 node:Int
 env:List eN
 vals:List eN
 deriving DecidableEq
structure Ob where
 form:Int
 n:Int
 vals:List eN
 frs:List Fr
 deriving DecidableEq
instance:Inhabited Fr:=⟨⟨0,[],[]⟩⟩
instance:Inhabited Ob:=⟨⟨0,0,[],[]⟩⟩
def iV (n l h:Int):Bool:=decide (l<=n)&&decide (n<=h)
def dM (n:Int):Bool:=iV n (-1073741824) 1073741824
def dV (v:eN):Bool:=if v.1=1 then dM v.2 else if v.1=2 then iV v.2 0 1 else if v.1=3 then decide (v.2=0) else if v.1=4 then iV v.2 0 1073741824 else if v.1=5 then iV v.2 0 119 else false
def eP (l:List eN):Bool:=decide (l.length<=30)&&l.all dV
def nW (f:Fr):Bool:=iV f.node 0 1073741824&&eP f.env&&eP f.vals
def AC (l:List Fr):Bool:=decide (l.length<=40)&&l.all nW
def gR (o:Ob):Bool:=iV o.form 1 6&&dM o.n&&eP o.vals&&AC o.frs
def cB (n:Nat):List Nat:=if h:127<n then (n%128+128)::cB (n/128) else [n]
 termination_by n
 decreasing_by omega
def TS (n:Int):Nat:=if n<0 then (-2*n-1).toNat else (2*n).toNat
def gX (n:Int):List Nat:=cB (TS n)
def sZ (v:eN):List Nat:=(v.1.toNat%256)::gX v.2
def jD (l:List eN):List Nat:=cB l.length++l.flatMap sZ
def wX (f:Fr):List Nat:=cB f.node.toNat++jD f.env++jD f.vals
def kC (o:Ob):List Nat:=(o.form.toNat%256)::(gX o.n++jD o.vals++cB o.frs.length++o.frs.flatMap wX)
theorem jJ (n:Nat):By (cB n):=by
 induction n using Nat.strongRecOn with
 | _ n ih=>
   unfold cB
   split
   ·intro b hb
    rcases List.mem_cons.1 hb with rfl | hb
    ·omega
    ·exact ih (n/128) (by omega) b hb
   ·intro b hb
    simp at hb;omega
theorem gH:∀ (k n:Nat),n<128 ^ k->0<k->(cB n).length<=k
 | 0,_,_,h=>absurd h (by omega)
 | k+1,n,hn,_=>by
   unfold cB
   split
   ·rename_i h
    cases k with
    | zero=>simp at hn;omega
    | succ k=>
      have:=gH (k+1) (n/128) (by rw [Nat.pow_succ]at hn;exact Nat.div_lt_of_lt_mul (by rw [Nat.mul_comm];exact hn)) (by omega)
      simp only [List.length_cons];omega
   ·simp
theorem aBs {n:Int} (h:dM n=true):TS n<4294967296:=by
 simp only [dM,iV,Bool.and_eq_true,decide_eq_true_eq]at h
 unfold TS
 split<;>omega
theorem nX {n:Int} (h:dM n=true):(gX n).length<=5:=gH 5 _ (by have:=aBs h;omega) (by omega)
def eI (v:eN):AV:=.agg [.int .i64 v.1,.int .i64 v.2]
theorem aBt (v:eN):(eI v).cells.length=2:=rfl
def DJ:AV->Option eN
 | .agg [.int .i64 k,.int .i64 n]=>some (k,n)
 | _=>none
theorem MK (v:eN):DJ (eI v)=some v:=rfl
theorem AE {a:AV} {v:eN} (h:DJ a=some v):a=eI v:=by
 unfold DJ at h
 split at h
 ·cases h;rfl
 ·cases h
def AZ {α:Type} (f:AV->Option α):List AV->Option (List α)
 | []=>some []
 | a::l=>match f a,AZ f l with
   | some x,some xs=>some (x::xs)
   | _,_=>none
def FS {α:Type} (f:AV->Option α):AV->Option (List α)
 | .nils=>some []
 | .fz xs _=>if xs.length<=9223372036854775807 then AZ f xs else none
 | _=>none
def cA:AV->Option (List eN):=FS DJ
theorem DK {α:Type} {f:AV->Option α} {g:α->AV} (h:∀ x,f (g x)=some x):∀ l:List α,AZ f (l.map g)=some l
 | []=>rfl
 | x::l=>by simp only [List.map_cons,AZ,h,DK h l]
theorem DL {α:Type} {f:AV->Option α} {g:α->AV} (h:∀ a x,f a=some x->a=g x):∀ (l:List AV) (xs:List α),AZ f l=some xs->l=xs.map g
 | [],xs,e=>by simp [AZ]at e;subst e;rfl
 | a::l,xs,e=>by
   simp only [AZ]at e
   split at e
   ·rename_i x ys h1 h2
    simp at e;subst e
    rw [h _ _ h1,DL h l ys h2];rfl
   ·cases e
theorem eB {a:AV} {l:List eN} (h:cA a=some l):Sl a (l.map eI):=by
 unfold cA FS at h
 split at h
 ·simp at h;subst h;exact ⟨.inl ⟨rfl,rfl⟩,Nat.zero_le _⟩
 ·rename_i xs c
  split at h
  ·rename_i hl
   have:=DL (g:=eI) (fun a x=>AE) xs l h
   subst this
   exact ⟨.inr ⟨c,rfl⟩,hl⟩
  ·cases h
 ·cases h
theorem QP {a:AV} {l:List eN} (h:Sl a (l.map eI)):cA a=some l:=by
 rcases h.1 with ⟨rfl,e⟩ | ⟨c,rfl⟩
 ·rw [List.map_eq_nil_iff.1 e];rfl
 ·show (if _ then _ else _)=_
  rw [if_pos h.2,DK MK]
def mC:AV->Option Fr
 | .agg [.int .i64 k,e,v]=>match cA e,cA v with
   | some e,some v=>some ⟨k,e,v⟩
   | _,_=>none
 | _=>none
def iO:AV->Option (List Fr):=FS mC
def dZ:AV->Option Ob
 | .agg [.int .i64 f,.int .i64 n,vs,fs]=>match cA vs,iO fs with
   | some vs,some fs=>some ⟨f,n,vs,fs⟩
   | _,_=>none
 | _=>none
theorem gY {a:AV} {f:Fr} (h:mC a=some f):∃ e v,a=.agg [.int .i64 f.node,e,v]/\cA e=some f.env/\cA v=some f.vals:=by
 unfold mC at h
 split at h
 ·rename_i k e v
  split at h
  ·rename_i e' v' h1 h2
   cases h
   exact ⟨e,v,rfl,h1,h2⟩
  ·cases h
 ·cases h
theorem gZ {a:AV} {o:Ob} (h:dZ a=some o):∃ vs fs,a=.agg [.int .i64 o.form,.int .i64 o.n,vs,fs]/\cA vs=some o.vals/\iO fs=some o.frs:=by
 unfold dZ at h
 split at h
 ·rename_i k n vs fs
  split at h
  ·rename_i e' v' h1 h2
   cases h
   exact ⟨vs,fs,rfl,h1,h2⟩
  ·cases h
 ·cases h
theorem ML {α:Type} {f:AV->Option α}:∀ (l:List AV) (xs:List α),AZ f l=some xs->l.length=xs.length/\∀ i (h:i<l.length) (h':i<xs.length),f l[i]=some xs[i]
 | [],xs,e=>by simp [AZ]at e;subst e;exact ⟨rfl,fun i h=>absurd h (by simp)⟩
 | a::l,xs,e=>by
   simp only [AZ]at e
   split at e
   ·rename_i x ys h1 h2
    simp at e;subst e
    obtain ⟨q1,q2⟩:=ML l ys h2
    refine ⟨by simp [q1],fun i h h'=>?_⟩
    cases i with
    | zero=>exact h1
    | succ i=>exact q2 i (by simpa using h) (by simpa using h')
   ·cases e
theorem wY {α:Type} {f:AV->Option α} {a:AV} {l:List α} (h:FS f a=some l):∃ xs,Sl a xs/\xs.length=l.length/\∀ i (h:i<xs.length) (h':i<l.length),f xs[i]=some l[i]:=by
 unfold FS at h
 split at h
 ·simp at h;subst h;exact ⟨[],⟨.inl ⟨rfl,rfl⟩,Nat.zero_le _⟩,rfl,fun i h=>absurd h (by simp)⟩
 ·rename_i xs c
  split at h
  ·rename_i hl
   obtain ⟨q1,q2⟩:=ML xs l h
   exact ⟨xs,⟨.inr ⟨c,rfl⟩,hl⟩,q1,q2⟩
  ·cases h
 ·cases h
theorem bL {a:AV} {l:List eN} (h:cA a=some l):a.isCell=true:=(eB h).cell
theorem fK {α:Type} {f:AV->Option α} {a:AV} {l:List α} (h:FS f a=some l):a.isCell=true:=by
 obtain ⟨xs,h,_⟩:=wY h;exact h.cell
theorem aBu (l:List eN):∀ x∈l.map eI,UnderE 0 x:=fun x hx=>by obtain ⟨a,_,rfl⟩:=List.mem_map.1 hx;exact ⟨2,rfl⟩
theorem hG {a:AV} {l:List eN} (h:cA a=some l):UnderE 0 a:=tC (eB h) (aBu l)
theorem wZ {a:AV} {f:Fr} (h:mC a=some f):UnderE 0 a:=by
 obtain ⟨e,v,rfl,h1,h2⟩:=gY h
 refine eC fun x hx=>?_
 simp at hx
 rcases hx with rfl | rfl | rfl
 ·exact ⟨1,rfl⟩
 ·exact hG h1
 ·exact hG h2
theorem zA {a:AV} {l:List Fr} (h:iO a=some l):UnderE 0 a:=by
 obtain ⟨xs,h1,h2,h3⟩:=wY h
 refine tC h1 fun x hx=>?_
 obtain ⟨i,hi,rfl⟩:=List.mem_iff_getElem.1 hx
 exact wZ (h3 i hi (by omega))
theorem qI {a:AV} {o:Ob} (h:dZ a=some o):UnderE 0 a:=by
 obtain ⟨vs,fs,rfl,h1,h2⟩:=gZ h
 refine eC fun x hx=>?_
 simp at hx
 rcases hx with rfl | rfl | rfl | rfl
 ·exact ⟨1,rfl⟩
 ·exact ⟨1,rfl⟩
 ·exact hG h1
 ·exact zA h2
end
end Go.Proofs.Ytajngkkihadgfaa
/-
 The reference of images: what can be stored,and the bytes of an object.
-/
namespace Go.Proofs.Ytajngkkihadgfaa
open Go.Abs Go Go.Abs.TryF
noncomputable section
set_option maxRecDepth 10000
theorem aX {i:Nat} (h:i<9223372036854775807):IntKind.i64.wrap ((i:Int)+1)=((i+1:Nat):Int):=by rw [IntWalk.i64_in _ (by omega)];rfl
theorem bO {α:Type} {l:List α} {i:Nat} {d:α} (h:i<l.length):l.getD i d=l[i]:=by simp [List.getD_eq_getElem?_getD,h]
theorem zB {α:Type} {l:List α} {i:Nat} {d:α} (h:i<l.length):l.take (i+1)=l.take i++[l.getD i d]:=by rw [bO h];exact List.take_succ_eq_append_getElem h
def inV:List AV->Option AV
 | [.int .i64 n,.int .i64 l,.int .i64 h]=>some (.bool (iV n l h))
 | _=>none
theorem jQ {n l h:Int}:inV [.int .i64 n,.int .i64 l,.int .i64 h]=some (.bool (iV n l h)):=rfl
def QQ:List AV->Option AV
 | [a]=>(DJ a).map fun v=>.bool (dV v)
 | _=>none
theorem xA {v:eN}:Und 0 (eI v):=(eC fun x hx=>by simp at hx;rcases hx with rfl | rfl<;>exact ⟨1,rfl⟩:UnderE 0 (eI v)).und
end
end Go.Proofs.Ytajngkkihadgfaa
/-
 The reference of images: the bytes of numbers,values,objects.
-/
namespace Go.Proofs.Ytajngkkihadgfaa
open Go.Abs Go Go.Abs.TryF
noncomputable section
set_option maxRecDepth 10000
theorem dE {n:Nat} (h:n<9223372036854775808):IntKind.i64.wrap (n:Int)=(n:Int):=IntWalk.i64_in _ (by omega)
theorem vL {a:Nat}:IntKind.u8.wrap (a:Int)=((a%256:Nat):Int):=by simp [IntKind.wrap,IntKind.bits,IntKind.signed]
theorem aBv {a:Int} (h:0<=a):IntKind.u8.wrap a=((a.toNat%256:Nat):Int):=by
 have:((a.toNat:Nat):Int)=a:=by omega
 rw [<-this,vL];simp
theorem dR {n m:Nat}:Int.tmod (n:Int) (m:Int)=((n%m:Nat):Int):=by rw [Int.tmod_eq_emod_of_nonneg (by omega)];simp
theorem kL {n m:Nat}:Int.tdiv (n:Int) (m:Int)=((n/m:Nat):Int):=by rw [Int.tdiv_eq_ediv_of_nonneg (by omega)];simp
theorem TT {v:eN} (h:dV v=true):dM v.2=true/\1<=v.1/\v.1<=5:=by
 unfold dV at h
 simp only [dM,iV,Bool.and_eq_true,decide_eq_true_eq]at h ⊢
 split at h
 ·exact ⟨by simpa using h,by omega,by omega⟩
 ·split at h
  ·simp at h;exact ⟨by omega,by omega,by omega⟩
  ·split at h
   ·simp at h;exact ⟨by omega,by omega,by omega⟩
   ·split at h
    ·simp at h;exact ⟨by omega,by omega,by omega⟩
    ·split at h
     ·simp at h;exact ⟨by omega,by omega,by omega⟩
     ·cases h
theorem aBw {v:eN} (h:dV v=true):(sZ v).length<=6:=by
 have:=nX (TT h).1
 simp [sZ];omega
theorem eZ {α:Type} {f:α->List Nat} {k:Nat}:∀ (l:List α),(∀ x∈l,(f x).length<=k)->(l.flatMap f).length<=l.length*k
 | [],_=>by simp
 | x::l,h=>by
   have h1:=h x (List.mem_cons_self ..)
   have h2:=eZ l fun y hy=>h y (List.mem_cons_of_mem _ hy)
   simp only [List.flatMap_cons,List.length_append,List.length_cons,Nat.succ_mul];omega
theorem nY {l:List eN} (h:eP l=true):l.length<=30/\∀ v∈l,dV v=true:=by
 simp only [eP,Bool.and_eq_true,decide_eq_true_eq]at h
 exact ⟨h.1,List.all_eq_true.1 h.2⟩
theorem tA {l:List eN} (h:eP l=true):(jD l).length<=185:=by
 obtain ⟨h1,h2⟩:=nY h
 have e1:=gH 1 l.length (by omega) (by omega)
 have e2:=eZ (f:=sZ) (k:=6) l fun x hx=>aBw (h2 x hx)
 simp only [jD,List.length_append];omega
end
end Go.Proofs.Ytajngkkihadgfaa
