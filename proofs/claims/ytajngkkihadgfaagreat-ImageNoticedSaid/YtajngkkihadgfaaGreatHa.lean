/-
  Objects and their bytes, in plain words; how they lie in the machine.
-/
import Derived.Test.YtajngkkihadgfaaGreatEp
import Derived.Test.YtajngkkihadgfaaGreatTf
import Derived.Test.YtajngkkihadgfaaGreatEo
set_option linter.unusedVariables false
set_option linter.unusedSimpArgs false
namespace Go.Proofs.YtajngkkihadgfaaGreat
open Go.Abs Go
noncomputable section
set_option maxRecDepth 10000
abbrev eK:=Int × Int
structure Fr where
 node:Int
 env:List eK
 vals:List eK
 deriving DecidableEq
structure Ob where
 form:Int
 n:Int
 vals:List eK
 frs:List Fr
 deriving DecidableEq
instance:Inhabited Fr:=⟨⟨0,[],[]⟩⟩
instance:Inhabited Ob:=⟨⟨0,0,[],[]⟩⟩
def jI (n l h:Int):Bool:=decide (l<=n)&&decide (n<=h)
def dP (n:Int):Bool:=jI n (-1073741824) 1073741824
def dU (v:eK):Bool:=if v.1=1 then dP v.2 else if v.1=2 then jI v.2 0 1 else if v.1=3 then decide (v.2=0) else if v.1=4 then jI v.2 0 1073741824 else if v.1=5 then jI v.2 0 119 else false
def eN (l:List eK):Bool:=decide (l.length<=30)&&l.all dU
def oE (f:Fr):Bool:=jI f.node 0 1073741824&&eN f.env&&eN f.vals
def AJ (l:List Fr):Bool:=decide (l.length<=40)&&l.all oE
def iS (o:Ob):Bool:=jI o.form 1 6&&dP o.n&&eN o.vals&&AJ o.frs
def cC (n:Nat):List Nat:=if h:127<n then (n%128+128)::cC (n/128) else [n]
 termination_by n
 decreasing_by omega
def UT (n:Int):Nat:=if n<0 then (-2*n-1).toNat else (2*n).toNat
def hH (n:Int):List Nat:=cC (UT n)
def tB (v:eK):List Nat:=(v.1.toNat%256)::hH v.2
def jJ (l:List eK):List Nat:=cC l.length++l.flatMap tB
def yP (f:Fr):List Nat:=cC f.node.toNat++jJ f.env++jJ f.vals
def lJ (o:Ob):List Nat:=(o.form.toNat%256)::(hH o.n++jJ o.vals++cC o.frs.length++o.frs.flatMap yP)
theorem jP (n:Nat):By (cC n):=by
 induction n using Nat.strongRecOn with
 | _ n ih=>
   unfold cC
   split
   ·intro b hb
    rcases List.mem_cons.1 hb with rfl | hb
    ·omega
    ·exact ih (n/128) (by omega) b hb
   ·intro b hb
    simp at hb;omega
theorem iA:∀ (k n:Nat),n<128 ^ k->0<k->(cC n).length<=k
 | 0,_,_,h=>absurd h (by omega)
 | k+1,n,hn,_=>by
   unfold cC
   split
   ·rename_i h
    cases k with
    | zero=>simp at hn;omega
    | succ k=>
      have:=iA (k+1) (n/128) (by rw [Nat.pow_succ]at hn;exact Nat.div_lt_of_lt_mul (by rw [Nat.mul_comm];exact hn)) (by omega)
      simp only [List.length_cons];omega
   ·simp
theorem aCz {n:Int} (h:dP n=true):UT n<4294967296:=by
 simp only [dP,jI,Bool.and_eq_true,decide_eq_true_eq]at h
 unfold UT
 split<;>omega
theorem qH {n:Int} (h:dP n=true):(hH n).length<=5:=iA 5 _ (by have:=aCz h;omega) (by omega)
def eH (v:eK):AV:=.agg [.int .i64 v.1,.int .i64 v.2]
theorem aDa (v:eK):(eH v).cells.length=2:=rfl
def DV:AV->Option eK
 | .agg [.int .i64 k,.int .i64 n]=>some (k,n)
 | _=>none
theorem NI (v:eK):DV (eH v)=some v:=rfl
theorem AK {a:AV} {v:eK} (h:DV a=some v):a=eH v:=by
 unfold DV at h
 split at h
 ·cases h;rfl
 ·cases h
def BG {α:Type} (f:AV->Option α):List AV->Option (List α)
 | []=>some []
 | a::l=>match f a,BG f l with
   | some x,some xs=>some (x::xs)
   | _,_=>none
def GH {α:Type} (f:AV->Option α):AV->Option (List α)
 | .nils=>some []
 | .fz xs _=>if xs.length<=9223372036854775807 then BG f xs else none
 | _=>none
def cB:AV->Option (List eK):=GH DV
theorem DW {α:Type} {f:AV->Option α} {g:α->AV} (h:∀ x,f (g x)=some x):∀ l:List α,BG f (l.map g)=some l
 | []=>rfl
 | x::l=>by simp only [List.map_cons,BG,h,DW h l]
theorem DX {α:Type} {f:AV->Option α} {g:α->AV} (h:∀ a x,f a=some x->a=g x):∀ (l:List AV) (xs:List α),BG f l=some xs->l=xs.map g
 | [],xs,e=>by simp [BG]at e;subst e;rfl
 | a::l,xs,e=>by
   simp only [BG]at e
   split at e
   ·rename_i x ys h1 h2
    simp at e;subst e
    rw [h _ _ h1,DX h l ys h2];rfl
   ·cases e
theorem eA {a:AV} {l:List eK} (h:cB a=some l):Sl a (l.map eH):=by
 unfold cB GH at h
 split at h
 ·simp at h;subst h;exact ⟨.inl ⟨rfl,rfl⟩,Nat.zero_le _⟩
 ·rename_i xs c
  split at h
  ·rename_i hl
   have:=DX (g:=eH) (fun a x=>AK) xs l h
   subst this
   exact ⟨.inr ⟨c,rfl⟩,hl⟩
  ·cases h
 ·cases h
theorem RL {a:AV} {l:List eK} (h:Sl a (l.map eH)):cB a=some l:=by
 rcases h.1 with ⟨rfl,e⟩ | ⟨c,rfl⟩
 ·rw [List.map_eq_nil_iff.1 e];rfl
 ·show (if _ then _ else _)=_
  rw [if_pos h.2,DW NI]
def mL:AV->Option Fr
 | .agg [.int .i64 k,e,v]=>match cB e,cB v with
   | some e,some v=>some ⟨k,e,v⟩
   | _,_=>none
 | _=>none
def iT:AV->Option (List Fr):=GH mL
def eD:AV->Option Ob
 | .agg [.int .i64 f,.int .i64 n,vs,fs]=>match cB vs,iT fs with
   | some vs,some fs=>some ⟨f,n,vs,fs⟩
   | _,_=>none
 | _=>none
theorem iB {a:AV} {f:Fr} (h:mL a=some f):∃ e v,a=.agg [.int .i64 f.node,e,v]/\cB e=some f.env/\cB v=some f.vals:=by
 unfold mL at h
 split at h
 ·rename_i k e v
  split at h
  ·rename_i e' v' h1 h2
   cases h
   exact ⟨e,v,rfl,h1,h2⟩
  ·cases h
 ·cases h
theorem iC {a:AV} {o:Ob} (h:eD a=some o):∃ vs fs,a=.agg [.int .i64 o.form,.int .i64 o.n,vs,fs]/\cB vs=some o.vals/\iT fs=some o.frs:=by
 unfold eD at h
 split at h
 ·rename_i k n vs fs
  split at h
  ·rename_i e' v' h1 h2
   cases h
   exact ⟨vs,fs,rfl,h1,h2⟩
  ·cases h
 ·cases h
theorem NJ {α:Type} {f:AV->Option α}:∀ (l:List AV) (xs:List α),BG f l=some xs->l.length=xs.length/\∀ i (h:i<l.length) (h':i<xs.length),f l[i]=some xs[i]
 | [],xs,e=>by simp [BG]at e;subst e;exact ⟨rfl,fun i h=>absurd h (by simp)⟩
 | a::l,xs,e=>by
   simp only [BG]at e
   split at e
   ·rename_i x ys h1 h2
    simp at e;subst e
    obtain ⟨q1,q2⟩:=NJ l ys h2
    refine ⟨by simp [q1],fun i h h'=>?_⟩
    cases i with
    | zero=>exact h1
    | succ i=>exact q2 i (by simpa using h) (by simpa using h')
   ·cases e
theorem xD {α:Type} {f:AV->Option α} {a:AV} {l:List α} (h:GH f a=some l):∃ xs,Sl a xs/\xs.length=l.length/\∀ i (h:i<xs.length) (h':i<l.length),f xs[i]=some l[i]:=by
 unfold GH at h
 split at h
 ·simp at h;subst h;exact ⟨[],⟨.inl ⟨rfl,rfl⟩,Nat.zero_le _⟩,rfl,fun i h=>absurd h (by simp)⟩
 ·rename_i xs c
  split at h
  ·rename_i hl
   obtain ⟨q1,q2⟩:=NJ xs l h
   exact ⟨xs,⟨.inr ⟨c,rfl⟩,hl⟩,q1,q2⟩
  ·cases h
 ·cases h
theorem bN {a:AV} {l:List eK} (h:cB a=some l):a.isCell=true:=(eA h).cell
theorem fO {α:Type} {f:AV->Option α} {a:AV} {l:List α} (h:GH f a=some l):a.isCell=true:=by
 obtain ⟨xs,h,_⟩:=xD h;exact h.cell
theorem aDb (l:List eK):∀ x∈l.map eH,UnderE 0 x:=fun x hx=>by obtain ⟨a,_,rfl⟩:=List.mem_map.1 hx;exact ⟨2,rfl⟩
theorem iD {a:AV} {l:List eK} (h:cB a=some l):UnderE 0 a:=tF (eA h) (aDb l)
theorem xE {a:AV} {f:Fr} (h:mL a=some f):UnderE 0 a:=by
 obtain ⟨e,v,rfl,h1,h2⟩:=iB h
 refine eB fun x hx=>?_
 simp at hx
 rcases hx with rfl | rfl | rfl
 ·exact ⟨1,rfl⟩
 ·exact iD h1
 ·exact iD h2
theorem zJ {a:AV} {l:List Fr} (h:iT a=some l):UnderE 0 a:=by
 obtain ⟨xs,h1,h2,h3⟩:=xD h
 refine tF h1 fun x hx=>?_
 obtain ⟨i,hi,rfl⟩:=List.mem_iff_getElem.1 hx
 exact xE (h3 i hi (by omega))
theorem qI {a:AV} {o:Ob} (h:eD a=some o):UnderE 0 a:=by
 obtain ⟨vs,fs,rfl,h1,h2⟩:=iC h
 refine eB fun x hx=>?_
 simp at hx
 rcases hx with rfl | rfl | rfl | rfl
 ·exact ⟨1,rfl⟩
 ·exact ⟨1,rfl⟩
 ·exact iD h1
 ·exact zJ h2
end
end Go.Proofs.YtajngkkihadgfaaGreat
/-
 The reference of images: what can be stored,and the bytes of an object.
-/
namespace Go.Proofs.YtajngkkihadgfaaGreat
open Go.Abs Go Go.Abs.TryzF
noncomputable section
set_option maxRecDepth 10000
theorem aW {i:Nat} (h:i<9223372036854775807):IntKind.i64.wrap ((i:Int)+1)=((i+1:Nat):Int):=by rw [IntWalk.i64_in _ (by omega)];rfl
theorem bI {α:Type} {l:List α} {i:Nat} {d:α} (h:i<l.length):l.getD i d=l[i]:=by simp [List.getD_eq_getElem?_getD,h]
theorem zK {α:Type} {l:List α} {i:Nat} {d:α} (h:i<l.length):l.take (i+1)=l.take i++[l.getD i d]:=by rw [bI h];exact List.take_succ_eq_append_getElem h
def inV:List AV->Option AV
 | [.int .i64 n,.int .i64 l,.int .i64 h]=>some (.bool (jI n l h))
 | _=>none
theorem jX {n l h:Int}:inV [.int .i64 n,.int .i64 l,.int .i64 h]=some (.bool (jI n l h)):=rfl
def RN:List AV->Option AV
 | [a]=>(DV a).map fun v=>.bool (dU v)
 | _=>none
theorem xF {v:eK}:Und 0 (eH v):=(eB fun x hx=>by simp at hx;rcases hx with rfl | rfl<;>exact ⟨1,rfl⟩:UnderE 0 (eH v)).und
end
end Go.Proofs.YtajngkkihadgfaaGreat
/-
 The reference of images: the bytes of numbers,values,objects.
-/
namespace Go.Proofs.YtajngkkihadgfaaGreat
open Go.Abs Go Go.Abs.TryzF
noncomputable section
set_option maxRecDepth 10000
theorem cZ {n:Nat} (h:n<9223372036854775808):IntKind.i64.wrap (n:Int)=(n:Int):=IntWalk.i64_in _ (by omega)
theorem tC {a:Nat}:IntKind.u8.wrap (a:Int)=((a%256:Nat):Int):=by simp [IntKind.wrap,IntKind.bits,IntKind.signed]
theorem aDc {a:Int} (h:0<=a):IntKind.u8.wrap a=((a.toNat%256:Nat):Int):=by
 have:((a.toNat:Nat):Int)=a:=by omega
 rw [<-this,tC];simp
theorem dF {n m:Nat}:Int.tmod (n:Int) (m:Int)=((n%m:Nat):Int):=by rw [Int.tmod_eq_emod_of_nonneg (by omega)];simp
theorem kP {n m:Nat}:Int.tdiv (n:Int) (m:Int)=((n/m:Nat):Int):=by rw [Int.tdiv_eq_ediv_of_nonneg (by omega)];simp
theorem UU {v:eK} (h:dU v=true):dP v.2=true/\1<=v.1/\v.1<=5:=by
 unfold dU at h
 simp only [dP,jI,Bool.and_eq_true,decide_eq_true_eq]at h ⊢
 split at h
 ·exact ⟨by simpa using h,by omega,by omega⟩
 ·split at h
  ·simp at h;exact ⟨by omega,by omega,by omega⟩
  ·split at h
   ·simp at h;exact ⟨by omega,by omega,by omega⟩
   ·split at h
    ·simp at h;exact ⟨by omega,by omega,by omega⟩
    ·split at h
     ·simp at h;exact ⟨by omega,by omega,by omega⟩
     ·cases h
theorem aDd {v:eK} (h:dU v=true):(tB v).length<=6:=by
 have:=qH (UU h).1
 simp [tB];omega
theorem fW {α:Type} {f:α->List Nat} {k:Nat}:∀ (l:List α),(∀ x∈l,(f x).length<=k)->(l.flatMap f).length<=l.length*k
 | [],_=>by simp
 | x::l,h=>by
   have h1:=h x (List.mem_cons_self ..)
   have h2:=fW l fun y hy=>h y (List.mem_cons_of_mem _ hy)
   simp only [List.flatMap_cons,List.length_append,List.length_cons,Nat.succ_mul];omega
theorem oF {l:List eK} (h:eN l=true):l.length<=30/\∀ v∈l,dU v=true:=by
 simp only [eN,Bool.and_eq_true,decide_eq_true_eq]at h
 exact ⟨h.1,List.all_eq_true.1 h.2⟩
theorem xG {l:List eK} (h:eN l=true):(jJ l).length<=185:=by
 obtain ⟨h1,h2⟩:=oF h
 have e1:=iA 1 l.length (by omega) (by omega)
 have e2:=fW (f:=tB) (k:=6) l fun x hx=>aDd (h2 x hx)
 simp only [jJ,List.length_append];omega
end
end Go.Proofs.YtajngkkihadgfaaGreat
