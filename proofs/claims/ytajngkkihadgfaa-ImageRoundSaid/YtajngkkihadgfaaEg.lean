/-
  The abstract machine: operations by facts on types that a program's own text gives.
-/
import Derived.Test.YtajngkkihadgfaaEf
set_option linter.unusedVariables false
set_option linter.unusedSimpArgs false
namespace Go.Abs
noncomputable section
variable {P:Program}
def IZ:=@fP
def UD:=@mO
def tyC (x:Option (Option Nat)) (o:Option AObj) (g off:Nat) (d:Option AV):Option AV:=match x with
 | some x=>JH (some x) o g off
 | none=>d
theorem aHk {s:Sto} {t:TypeId} {id g off:Nat}:fP P s t (.ptr id g off)=tyC (tyK P t) (s.get id) g off (IZ P s t (.ptr id g off)):=by
 cases h:tyK P t with
 | none=>rfl
 | some x=>rw [XL h];rfl
def stC (x:Option (Option Nat)) (s:Sto) (id g off:Nat) (v:AV) (o:Option AObj) (d:Option Sto):Option Sto:=match x with
 | some x=>stK s (some x) id g off v o
 | none=>d
theorem aCn {s:Sto} {t:TypeId} {id g off:Nat} {v:AV}:mO P s t (.ptr id g off) v=stC (tyK P t) s id g off v (s.get id) (UD P s t (.ptr id g off) v):=by
 cases h:tyK P t with
 | none=>rfl
 | some x=>rw [RE h];rfl
def pfC (x:Option (Option Nat)) (v:AV) (d:Option AV):Option AV:=match x with
 | some none=>bif v.isCell then some v else none
 | some (some k)=>(match v with
   | .agg cs=>bif Nat.beq cs.length k then some (.agg cs) else none
   | _=>none)
 | none=>d
theorem XE {s:Sto} {t:TypeId} {v:AV}:fP P s t (.pf v)=pfC (tyK P t) v (IZ P s t (.pf v)):=by
 cases h:tyK P t with
 | none=>rfl
 | some x=>
   obtain ⟨h1,h2⟩:=pN h
   cases x with
   | none=>simp only [fP,h1,h2,pfC,kF,Option.isSome]
   | some k=>
     simp only [fP,h1,h2,pfC,kF,Option.isSome]
     cases v<;>rfl
theorem dG {v:AV} {d:Option AV} (h:v.isCell=true):pfC (some none) v d=some v:=by simp [pfC,h]
theorem eK {cs:List AV} {k:Nat} {d:Option AV} (h:cs.length=k):pfC (some (some k)) (.agg cs) d=some (.agg cs):=by simp [pfC,h]
def oY:=@cI
def UE:=@pU
def aLd (x:Option (Nat × Option Nat)) (id g o:Nat) (d:Option AV):Option AV:=match x with
 | some (off,_)=>some (.ptr id g (o+off))
 | none=>d
theorem JA {t:TypeId} {id g o f:Nat}:cI P t (.ptr id g o) f=aLd (fM P t f) id g o (oY P t (.ptr id g o) f):=by
 cases h:fM P t f with
 | none=>rfl
 | some x=>obtain ⟨off,y⟩:=x;rw [EB h];rfl
def aLe (x:Option (Nat × Option Nat)) (cs:List AV) (d:Option AV):Option AV:=match x with
 | some (off,y)=>ZK y cs off
 | none=>d
theorem aCp {t:TypeId} {cs:List AV} {f:Nat}:pU P t (.agg cs) f=aLe (fM P t f) cs (UE P t (.agg cs) f):=by
 cases h:fM P t f with
 | none=>rfl
 | some x=>obtain ⟨off,y⟩:=x;rw [RG h];rfl
theorem aHl {cs:List AV} {off n:Nat} (h:off+n<=cs.length):ZK (some n) cs off=some (.agg (aG cs off n)):=by
 have:Nat.ble (off+n) cs.length=true:=by simpa using h
 simp [ZK,this]
def FT (x:Option (Nat × Option Nat)) (cs:List AV) (d:Option AV):Option AV:=match x with
 | some (off,none)=>(match cs[off]? with
   | some v=>bif v.isCell then some (.pf v) else none
   | none=>none)
 | some (off,some n)=>bif Nat.ble (off+n) cs.length then some (.pf (.agg (aG cs off n))) else none
 | none=>d
theorem DU {t:TypeId} {cs:List AV} {f:Nat}:cI P t (.pf (.agg cs)) f=FT (fM P t f) cs (oY P t (.pf (.agg cs)) f):=by
 cases h:fM P t f with
 | none=>rfl
 | some x=>
   obtain ⟨off,y⟩:=x
   unfold fM at h
   split at h
   ·rename_i fields hu
    split at h
    ·rename_i fd hfd
     split at h
     ·rename_i z hz
      split at h
      ·cases h
      ·rename_i hne
       simp only [Option.some.injEq,Prod.mk.injEq]at h
       obtain ⟨rfl,rfl⟩:=h
       obtain ⟨h1,h2⟩:=pN hz
       have:∃ m,kF z=m+1:=by
        cases z with
        | none=>exact ⟨0,rfl⟩
        | some n=>cases n with
          | zero=>exact absurd rfl hne
          | succ m=>exact ⟨m,rfl⟩
       obtain ⟨m,hm⟩:=this
       rw [hm]at h1
       cases z with
       | none=>
         have h2':zN P fd.type=some false:=h2
         simp only [cI,hu,hfd,h1,uR,nH hz,ZK,h2',FT]
         cases cs[fd.offset]?<;>rfl
       | some n=>
         have h2':zN P fd.type=some true:=h2
         simp only [cI,hu,hfd,h1,uR,nH hz,ZK,h2',FT]
         cases Nat.ble (fd.offset+n) cs.length<;>rfl
     ·cases h
    ·cases h
   ·cases h
theorem aCq {off:Nat} {cs:List AV} {d:Option AV} {v:AV} (h:cs[off]?=some v) (hc:v.isCell=true):FT (some (off,none)) cs d=some (.pf v):=by simp [FT,h,hc]
def mD (P:Program) (t:TypeId):Option Nat:=match P.underlying t with
 | some .string=>some 0
 | some (.slice _)=>some 1
 | some (.map _ _)=>some 2
 | some (.array n _)=>some (3+n)
 | _=>none
def uB:=@abuiltin
def MY (x:Option Nat) (s:Sto) (v:AV) (d:Option ORes):Option ORes:=match x with
 | some 0=>(match v with
   | .str l=>some (.val (.int .i64 (l.length:Nat)))
   | _=>none)
 | some 1=>(match v with
   | .str _=>none
   | v=>(match oP v with
     | some n=>some (.val (.int .i64 (n:Nat)))
     | none=>none))
 | some 2=>(match v with
   | .nilm=>some (.val (.int .i64 0))
   | .map id=>(match s.get id with
     | some (.map es _)=>some (.val (.int .i64 (es.length:Nat)))
     | _=>none)
   | _=>none)
 | some (n+3)=>some (.val (.int .i64 (n:Nat)))
 | none=>d
theorem aLf {s:Sto} {t:TypeId} {v:AV}:abuiltin P s .len [t].toArray [v]=MY (mD P t) s v (uB P s .len [t].toArray [v]):=by
 have h0:([t].toArray)[0]?=some t:=rfl
 cases h:mD P t with
 | none=>rfl
 | some x=>
   unfold mD at h
   simp only [abuiltin,h0]
   cases hu:P.underlying t with
   | none=>rw [hu]at h;cases h
   | some d=>
     rw [hu]at h
     cases d with
     | string=>simp only [Option.some.injEq]at h;subst h;cases v<;>rfl
     | slice e=>simp only [Option.some.injEq]at h;subst h;cases v<;>rfl
     | map k e=>simp only [Option.some.injEq]at h;subst h;cases v<;>rfl
     | array n e=>
       simp only [Option.some.injEq]at h
       subst h
       rw [show 3+n=n+3 by omega]
       cases v<;>rfl
     | _=>cases h
theorem BL {k:IntKind} {i:Int} {n:Nat} (h0:0<=i) (h1:i<n):qQ (.int k i) n=some i.toNat:=by
 obtain ⟨m,rfl⟩:=Int.eq_ofNat_of_zero_le h0
 have:Nat.blt m n=true:=by simp;omega
 show (bif Nat.blt m n then some m else none)=_
 rw [this];rfl
theorem mE {d n:Nat}:gA none d n=some d:=rfl
theorem mW {k:IntKind} {i:Int} {d n:Nat} (h0:0<=i) (h1:i<=n):gA (some (.int k i)) d n=some i.toNat:=by
 obtain ⟨m,rfl⟩:=Int.eq_ofNat_of_zero_le h0
 have:Nat.ble m n=true:=by simp;omega
 show (bif Nat.ble m n then some m else none)=_
 rw [this];rfl
def UF:=@oL
def fT:=@cJ
def QX (x:Option Nat) (l:List Nat) (v:AV) (d:Option AV):Option AV:=match x with
 | some 0=>(match qQ v l.length with
   | some i=>some (.int .u8 ((l.getD i 0:Nat):Int))
   | none=>none)
 | _=>d
theorem aCr {t:TypeId} {l:List Nat} {v:AV}:oL P t (.str l) v=QX (mD P t) l v (UF P t (.str l) v):=by
 unfold mD
 cases hu:P.underlying t with
 | none=>rfl
 | some d=>
   cases d<;>try rfl
   rotate_left
   ·show _=QX (some (3+_)) l v _
    rw [Nat.add_comm 3]
    rfl
   simp only [oL,hu,QX]
   cases hi:qQ v l.length with
   | none=>rfl
   | some i=>
     simp only
     have:i<l.length:=by
      unfold qQ at hi
      split at hi
      ·rename_i j
       cases hb:Nat.blt j l.length with
       | true=>rw [hb]at hi;simp at hi;subst hi;simpa using hb
       | false=>rw [hb]at hi;cases hi
      ·cases hi
     rw [List.getElem?_eq_getElem this]
     simp [List.getD_eq_getElem?_getD,this]
theorem aHm {l:List Nat} {k:IntKind} {i:Int} {d:Option AV} (h0:0<=i) (h1:i<l.length):QX (some 0) l (.int k i) d=some (.int .u8 ((l.getD i.toNat 0:Nat):Int)):=by
 simp only [QX,BL h0 h1]
def eS (x:Option Nat) (l:List AV) (v:AV) (d:Option AV):Option AV:=match x with
 | some k=>(match qQ v l.length with
   | some i=>(match l[i]? with
     | some a=>bif Nat.beq a.cells.length k then some (.pf a) else none
     | none=>none)
   | none=>none)
 | none=>d
theorem tE {t:TypeId} {l:List AV} {c:Bool} {v:AV}:cJ P t (.fz l c) v=eS (sL P t) l v (fT P t (.fz l c) v):=by
 cases h:sL P t with
 | none=>rfl
 | some k=>
   unfold sL at h
   split at h
   ·rename_i e hu
    simp only [cJ,hu,h,eS]
    cases qQ v l.length<;>rfl
   ·cases h
theorem iK {k:Nat} {l:List AV} {q:IntKind} {i:Int} {d:Option AV} {a:AV} (h0:0<=i) (h1:i<l.length) (ha:l[i.toNat]?=some a) (hk:a.cells.length=k):eS (some k) l (.int q i) d=some (.pf a):=by
 have:Nat.beq a.cells.length k=true:=by rw [hk];exact Nat.beq_refl k
 simp only [eS,BL h0 h1,ha,this,cond_true]
def XF (x:Option Nat) (id g off len:Nat) (v:AV) (d:Option AV):Option AV:=match x with
 | some k=>(match qQ v len with
   | some i=>some (.ptr id g (off+i*k))
   | none=>none)
 | none=>d
theorem DV {t:TypeId} {id g off len:Nat} {c:ACap} {v:AV}:cJ P t (.sl id g off len c) v=XF (sL P t) id g off len v (fT P t (.sl id g off len c) v):=by
 cases h:sL P t with
 | none=>rfl
 | some k=>
   unfold sL at h
   split at h
   ·rename_i e hu
    simp only [cJ,hu,h,XF]
    cases qQ v len<;>rfl
   ·cases h
theorem aHn {k id g off len:Nat} {q:IntKind} {i:Int} {d:Option AV} (h0:0<=i) (h1:i<len):XF (some k) id g off len (.int q i) d=some (.ptr id g (off+i.toNat*k)):=by
 simp only [XF,BL h0 h1]
def XG (x:Option (Nat × Option Nat)) (id g off:Nat) (v:AV) (d:Option AV):Option AV:=match x with
 | some (n,k)=>(match qQ v n with
   | some i=>some (.ptr id g (off+i*kF k))
   | none=>none)
 | none=>d
theorem BB {t:TypeId} {id g off:Nat} {v:AV}:cJ P t (.ptr id g off) v=XG (NI P t) id g off v (fT P t (.ptr id g off) v):=by
 cases h:NI P t with
 | none=>rfl
 | some x=>
   obtain ⟨n,k⟩:=x
   unfold NI at h
   split at h
   ·rename_i m e hu
    cases ht:tyK P e with
    | none=>rw [ht]at h;cases h
    | some y=>
      rw [ht]at h
      simp only [Option.map_some,Option.some.injEq,Prod.mk.injEq]at h
      obtain ⟨rfl,rfl⟩:=h
      obtain ⟨h1,h2⟩:=pN ht
      simp only [cJ,hu,h1,XG]
      cases qQ v m<;>rfl
   ·cases h
theorem aHo {n id g off:Nat} {k:Option Nat} {q:IntKind} {i:Int} {d:Option AV} (h0:0<=i) (h1:i<n):XG (some (n,k)) id g off (.int q i) d=some (.ptr id g (off+i.toNat*kF k)):=by
 simp only [XG,BL h0 h1]
def rP:=@gB
def zF (x:Option Nat) (l:List Nat) (lo hi:Option AV) (d:Option AV):Option AV:=match x with
 | some 0=>(match gA hi l.length l.length with
   | some h=>(match gA lo 0 h with
     | some i=>some (.str (aG l i (h-i)))
     | none=>none)
   | none=>none)
 | _=>d
theorem MZ {t:TypeId} {l:List Nat} {lo hi:Option AV}:gB P t (.str l) lo hi none=zF (mD P t) l lo hi (rP P t (.str l) lo hi none):=by
 unfold mD
 cases hu:P.underlying t with
 | none=>rfl
 | some d=>
   cases d<;>try rfl
   rotate_left
   ·show _=zF (some (3+_)) l lo hi _
    rw [Nat.add_comm 3]
    rfl
   simp only [gB,hu,zF]
   cases gA hi l.length l.length with
   | none=>rfl
   | some h=>cases gA lo 0 h<;>rfl
theorem XH {l:List Nat} {j k:IntKind} {a b:Int} {d:Option AV} (h0:0<=a) (h1:a<=b) (h2:b<=l.length):zF (some 0) l (some (.int j a)) (some (.int k b)) d=some (.str (aG l a.toNat (b.toNat-a.toNat))):=by
 simp only [zF,mW (show 0<=b by omega) h2,mW h0 (show a<=(b.toNat:Int) by omega)]
theorem aHp {l:List Nat} {j:IntKind} {a:Int} {d:Option AV} (h0:0<=a) (h1:a<=l.length):zF (some 0) l (some (.int j a)) none d=some (.str (l.drop a.toNat)):=by
 simp only [zF,mE,mW h0 h1]
 simp only [aG]
 rw [List.take_of_length_le (by simp)]
theorem aHq {l:List Nat} {k:IntKind} {b:Int} {d:Option AV} (h0:0<=b) (h2:b<=l.length):zF (some 0) l none (some (.int k b)) d=some (.str (l.take b.toNat)):=by
 simp only [zF,mW h0 h2,mE,aG,List.drop_zero,Nat.sub_zero]
def JB (x:Option Nat) (v:AV) (lo hi mx:Option AV) (d:Option AV):Option AV:=match x with
 | some k=>uQ k v lo hi mx
 | none=>d
theorem DW {t:TypeId} {id g off len:Nat} {c:ACap} {lo hi mx:Option AV}:gB P t (.sl id g off len c) lo hi mx=JB (sL P t) (.sl id g off len c) lo hi mx (rP P t (.sl id g off len c) lo hi mx):=by
 cases h:sL P t with
 | none=>rfl
 | some k=>
   unfold sL at h
   split at h
   ·rename_i e hu;simp only [gB,hu,h,JB]
   ·cases h
theorem QY {t:TypeId} {l:List AV} {c:Bool} {lo hi mx:Option AV}:gB P t (.fz l c) lo hi mx=JB (sL P t) (.fz l c) lo hi mx (rP P t (.fz l c) lo hi mx):=by
 cases h:sL P t with
 | none=>rfl
 | some k=>
   unfold sL at h
   split at h
   ·rename_i e hu;simp only [gB,hu,h,JB]
   ·cases h
theorem NA {t:TypeId} {lo hi mx:Option AV}:gB P t .nils lo hi mx=JB (sL P t) .nils lo hi mx (rP P t .nils lo hi mx):=by
 cases h:sL P t with
 | none=>rfl
 | some k=>
   unfold sL at h
   split at h
   ·rename_i e hu;simp only [gB,hu,h,JB]
   ·cases h
inductive CvK where
 | int (k:IntKind)
 | str
 | bytes
 | ofBytes
def cvK (P:Program) (src dst:TypeId):Option CvK:=match P.underlying src,P.underlying dst with
 | some (.int _),some (.int k)=>some (.int k)
 | some .string,some .string=>some .str
 | some .string,some (.slice e)=>(match P.underlying e with
   | some (.int .u8)=>some .bytes
   | _=>none)
 | some (.slice e),some .string=>(match P.underlying e with
   | some (.int .u8)=>some .ofBytes
   | _=>none)
 | _,_=>none
def aCt:=@kA
def PC (x:Option CvK) (s:Sto) (v:AV) (d:Option ORes):Option ORes:=match x,v with
 | some (.int k),.int _ n=>some (.val (.int k (k.wrap n)))
 | some .str,.str l=>some (.val (.str l))
 | some .bytes,.str l=>some (.val' (.sl s.n 0 0 l.length (.room 1)) (s.push (ob (gC l))))
 | some .ofBytes,.str l=>some (.val (.str l))
 | some .ofBytes,v=>(match oP v with
   | some n=>(match eL s 1 n v with
     | some l=>(match Go.Abs.ofBytes l with
       | some b=>some (.val (.str b))
       | none=>none)
     | none=>none)
   | none=>none)
 | _,_=>d
theorem xH (l:List Nat):(gC l).all AV.isCell=true:=by simp [gC,AV.isCell]
theorem xI {s:Sto} {src dst:TypeId} {v:AV}:kA P s src dst v=PC (cvK P src dst) s v (aCt P s src dst v):=by
 cases h:cvK P src dst with
 | none=>cases v<;>rfl
 | some x=>
   unfold cvK at h
   split at h
   ·rename_i k0 k h1 h2
    cases h
    cases v<;>first | rfl | (simp only [kA,h1,h2,PC,dS])
   ·rename_i h1 h2
    cases h
    cases v<;>first | rfl | (simp only [kA,h1,h2,PC])
   ·rename_i e h1 h2
    split at h
    ·rename_i h3
     cases h
     cases v<;>first | rfl | (simp only [kA,h1,h2,h3,PC,uG,xH,if_true])
    ·cases h
   ·rename_i e h1 h2
    split at h
    ·rename_i h3
     cases h
     cases v<;>first | rfl | (simp only [kA,h1,h2,h3,oP,PC];done) | (simp only [kA,h1,h2,h3,oP,PC];rfl) | (simp only [kA,h1,h2,h3,oP,PC];generalize eL s 1 _ _=q;cases q with | none=>rfl | some l=>rfl)
    ·cases h
   ·cases h
end
end Go.Abs
