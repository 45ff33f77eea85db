/-
  The abstract machine: operations by facts on types that a program's own text gives.
-/
import Derived.Test.YtajngkkihadgfaaGreatEf
set_option linter.unusedVariables false
set_option linter.unusedSimpArgs false
namespace Go.Abs
noncomputable section
variable {P:Program}
def JO:=@fC
def VC:=@mX
def tyC (x:Option (Option Nat)) (o:Option AObj) (g off:Nat) (d:Option AV):Option AV:=match x with
 | some x=>JW (some x) o g off
 | none=>d
theorem aIs {s:Sto} {t:TypeId} {id g off:Nat}:fC P s t (.ptr id g off)=tyC (tyK P t) (s.get id) g off (JO P s t (.ptr id g off)):=by
 cases h:tyK P t with
 | none=>rfl
 | some x=>rw [HU h];rfl
def stC (x:Option (Option Nat)) (s:Sto) (id g off:Nat) (v:AV) (o:Option AObj) (d:Option Sto):Option Sto:=match x with
 | some x=>stK s (some x) id g off v o
 | none=>d
theorem aDt {s:Sto} {t:TypeId} {id g off:Nat} {v:AV}:mX P s t (.ptr id g off) v=stC (tyK P t) s id g off v (s.get id) (VC P s t (.ptr id g off) v):=by
 cases h:tyK P t with
 | none=>rfl
 | some x=>rw [SD h];rfl
def pfC (x:Option (Option Nat)) (v:AV) (d:Option AV):Option AV:=match x with
 | some none=>bif v.isCell then some v else none
 | some (some k)=>(match v with
   | .agg cs=>bif Nat.beq cs.length k then some (.agg cs) else none
   | _=>none)
 | none=>d
theorem YI {s:Sto} {t:TypeId} {v:AV}:fC P s t (.pf v)=pfC (tyK P t) v (JO P s t (.pf v)):=by
 cases h:tyK P t with
 | none=>rfl
 | some x=>
   obtain ⟨h1,h2⟩:=oH h
   cases x with
   | none=>simp only [fC,h1,h2,pfC,kJ,Option.isSome]
   | some k=>
     simp only [fC,h1,h2,pfC,kJ,Option.isSome]
     cases v<;>rfl
theorem dJ {v:AV} {d:Option AV} (h:v.isCell=true):pfC (some none) v d=some v:=by simp [pfC,h]
theorem eQ {cs:List AV} {k:Nat} {d:Option AV} (h:cs.length=k):pfC (some (some k)) (.agg cs) d=some (.agg cs):=by simp [pfC,h]
def pF:=@cJ
def VD:=@pY
def aMm (x:Option (Nat × Option Nat)) (id g o:Nat) (d:Option AV):Option AV:=match x with
 | some (off,_)=>some (.ptr id g (o+off))
 | none=>d
theorem JP {t:TypeId} {id g o f:Nat}:cJ P t (.ptr id g o) f=aMm (fB P t f) id g o (pF P t (.ptr id g o) f):=by
 cases h:fB P t f with
 | none=>rfl
 | some x=>obtain ⟨off,y⟩:=x;rw [EM h];rfl
def aMn (x:Option (Nat × Option Nat)) (cs:List AV) (d:Option AV):Option AV:=match x with
 | some (off,y)=>ptK y cs off
 | none=>d
theorem aDv {t:TypeId} {cs:List AV} {f:Nat}:pY P t (.agg cs) f=aMn (fB P t f) cs (VD P t (.agg cs) f):=by
 cases h:fB P t f with
 | none=>rfl
 | some x=>obtain ⟨off,y⟩:=x;rw [SF h];rfl
theorem aIt {cs:List AV} {off n:Nat} (h:off+n<=cs.length):ptK (some n) cs off=some (.agg (aG cs off n)):=by
 have:Nat.ble (off+n) cs.length=true:=by simpa using h
 simp [ptK,this]
def GI (x:Option (Nat × Option Nat)) (cs:List AV) (d:Option AV):Option AV:=match x with
 | some (off,none)=>(match cs[off]? with
   | some v=>bif v.isCell then some (.pf v) else none
   | none=>none)
 | some (off,some n)=>bif Nat.ble (off+n) cs.length then some (.pf (.agg (aG cs off n))) else none
 | none=>d
theorem EG {t:TypeId} {cs:List AV} {f:Nat}:cJ P t (.pf (.agg cs)) f=GI (fB P t f) cs (pF P t (.pf (.agg cs)) f):=by
 cases h:fB P t f with
 | none=>rfl
 | some x=>
   obtain ⟨off,y⟩:=x
   unfold fB at h
   split at h
   ·rename_i fields hu
    split at h
    ·rename_i fd hfd
     split at h
     ·rename_i z hz
      split at h
      ·cases h
      ·rename_i hne
       simp only [Option.some.injEq,Prod.mk.injEq]at h
       obtain ⟨rfl,rfl⟩:=h
       obtain ⟨h1,h2⟩:=oH hz
       have:∃ m,kJ z=m+1:=by
        cases z with
        | none=>exact ⟨0,rfl⟩
        | some n=>cases n with
          | zero=>exact absurd rfl hne
          | succ m=>exact ⟨m,rfl⟩
       obtain ⟨m,hm⟩:=this
       rw [hm]at h1
       cases z with
       | none=>
         have h2':yJ P fd.type=some false:=h2
         simp only [cJ,hu,hfd,h1,uU,nP hz,ptK,h2',GI]
         cases cs[fd.offset]?<;>rfl
       | some n=>
         have h2':yJ P fd.type=some true:=h2
         simp only [cJ,hu,hfd,h1,uU,nP hz,ptK,h2',GI]
         cases Nat.ble (fd.offset+n) cs.length<;>rfl
     ·cases h
    ·cases h
   ·cases h
theorem aDw {off:Nat} {cs:List AV} {d:Option AV} {v:AV} (h:cs[off]?=some v) (hc:v.isCell=true):GI (some (off,none)) cs d=some (.pf v):=by simp [GI,h,hc]
def lF (P:Program) (t:TypeId):Option Nat:=match P.underlying t with
 | some .string=>some 0
 | some (.slice _)=>some 1
 | some (.map _ _)=>some 2
 | some (.array n _)=>some (3+n)
 | _=>none
def uF:=@abuiltin
def NV (x:Option Nat) (s:Sto) (v:AV) (d:Option ORes):Option ORes:=match x with
 | some 0=>(match v with
   | .str l=>some (.val (.int .i64 (l.length:Nat)))
   | _=>none)
 | some 1=>(match v with
   | .str _=>none
   | v=>(match oV v with
     | some n=>some (.val (.int .i64 (n:Nat)))
     | none=>none))
 | some 2=>(match v with
   | .nilm=>some (.val (.int .i64 0))
   | .map id=>(match s.get id with
     | some (.map es _)=>some (.val (.int .i64 (es.length:Nat)))
     | _=>none)
   | _=>none)
 | some (n+3)=>some (.val (.int .i64 (n:Nat)))
 | none=>d
theorem aMo {s:Sto} {t:TypeId} {v:AV}:abuiltin P s .len [t].toArray [v]=NV (lF P t) s v (uF P s .len [t].toArray [v]):=by
 have h0:([t].toArray)[0]?=some t:=rfl
 cases h:lF P t with
 | none=>rfl
 | some x=>
   unfold lF at h
   simp only [abuiltin,h0]
   cases hu:P.underlying t with
   | none=>rw [hu]at h;cases h
   | some d=>
     rw [hu]at h
     cases d with
     | string=>simp only [Option.some.injEq]at h;subst h;cases v<;>rfl
     | slice e=>simp only [Option.some.injEq]at h;subst h;cases v<;>rfl
     | map k e=>simp only [Option.some.injEq]at h;subst h;cases v<;>rfl
     | array n e=>
       simp only [Option.some.injEq]at h
       subst h
       rw [show 3+n=n+3 by omega]
       cases v<;>rfl
     | _=>cases h
theorem BS {k:IntKind} {i:Int} {n:Nat} (h0:0<=i) (h1:i<n):qQ (.int k i) n=some i.toNat:=by
 obtain ⟨m,rfl⟩:=Int.eq_ofNat_of_zero_le h0
 have:Nat.blt m n=true:=by simp;omega
 show (bif Nat.blt m n then some m else none)=_
 rw [this];rfl
theorem mM {d n:Nat}:gD none d n=some d:=rfl
theorem nF {k:IntKind} {i:Int} {d n:Nat} (h0:0<=i) (h1:i<=n):gD (some (.int k i)) d n=some i.toNat:=by
 obtain ⟨m,rfl⟩:=Int.eq_ofNat_of_zero_le h0
 have:Nat.ble m n=true:=by simp;omega
 show (bif Nat.ble m n then some m else none)=_
 rw [this];rfl
def VE:=@oQ
def fX:=@cL
def RW (x:Option Nat) (l:List Nat) (v:AV) (d:Option AV):Option AV:=match x with
 | some 0=>(match qQ v l.length with
   | some i=>some (.int .u8 ((l.getD i 0:Nat):Int))
   | none=>none)
 | _=>d
theorem aDx {t:TypeId} {l:List Nat} {v:AV}:oQ P t (.str l) v=RW (lF P t) l v (VE P t (.str l) v):=by
 unfold lF
 cases hu:P.underlying t with
 | none=>rfl
 | some d=>
   cases d<;>try rfl
   rotate_left
   ·show _=RW (some (3+_)) l v _
    rw [Nat.add_comm 3]
    rfl
   simp only [oQ,hu,RW]
   cases hi:qQ v l.length with
   | none=>rfl
   | some i=>
     simp only
     have:i<l.length:=by
      unfold qQ at hi
      split at hi
      ·rename_i j
       cases hb:Nat.blt j l.length with
       | true=>rw [hb]at hi;simp at hi;subst hi;simpa using hb
       | false=>rw [hb]at hi;cases hi
      ·cases hi
     rw [List.getElem?_eq_getElem this]
     simp [List.getD_eq_getElem?_getD,this]
theorem aIu {l:List Nat} {k:IntKind} {i:Int} {d:Option AV} (h0:0<=i) (h1:i<l.length):RW (some 0) l (.int k i) d=some (.int .u8 ((l.getD i.toNat 0:Nat):Int)):=by
 simp only [RW,BS h0 h1]
def fA (x:Option Nat) (l:List AV) (v:AV) (d:Option AV):Option AV:=match x with
 | some k=>(match qQ v l.length with
   | some i=>(match l[i]? with
     | some a=>bif Nat.beq a.cells.length k then some (.pf a) else none
     | none=>none)
   | none=>none)
 | none=>d
theorem tG {t:TypeId} {l:List AV} {c:Bool} {v:AV}:cL P t (.fz l c) v=fA (qV P t) l v (fX P t (.fz l c) v):=by
 cases h:qV P t with
 | none=>rfl
 | some k=>
   unfold qV at h
   split at h
   ·rename_i e hu
    simp only [cL,hu,h,fA]
    cases qQ v l.length<;>rfl
   ·cases h
theorem jQ {k:Nat} {l:List AV} {q:IntKind} {i:Int} {d:Option AV} {a:AV} (h0:0<=i) (h1:i<l.length) (ha:l[i.toNat]?=some a) (hk:a.cells.length=k):fA (some k) l (.int q i) d=some (.pf a):=by
 have:Nat.beq a.cells.length k=true:=by rw [hk];exact Nat.beq_refl k
 simp only [fA,BS h0 h1,ha,this,cond_true]
def YJ (x:Option Nat) (id g off len:Nat) (v:AV) (d:Option AV):Option AV:=match x with
 | some k=>(match qQ v len with
   | some i=>some (.ptr id g (off+i*k))
   | none=>none)
 | none=>d
theorem tH {t:TypeId} {id g off len:Nat} {c:ACap} {v:AV}:cL P t (.sl id g off len c) v=YJ (qV P t) id g off len v (fX P t (.sl id g off len c) v):=by
 cases h:qV P t with
 | none=>rfl
 | some k=>
   unfold qV at h
   split at h
   ·rename_i e hu
    simp only [cL,hu,h,YJ]
    cases qQ v len<;>rfl
   ·cases h
theorem VF {k id g off len:Nat} {q:IntKind} {i:Int} {d:Option AV} (h0:0<=i) (h1:i<len):YJ (some k) id g off len (.int q i) d=some (.ptr id g (off+i.toNat*k)):=by
 simp only [YJ,BS h0 h1]
def YK (x:Option (Nat × Option Nat)) (id g off:Nat) (v:AV) (d:Option AV):Option AV:=match x with
 | some (n,k)=>(match qQ v n with
   | some i=>some (.ptr id g (off+i*kJ k))
   | none=>none)
 | none=>d
theorem BI {t:TypeId} {id g off:Nat} {v:AV}:cL P t (.ptr id g off) v=YK (LE P t) id g off v (fX P t (.ptr id g off) v):=by
 cases h:LE P t with
 | none=>rfl
 | some x=>
   obtain ⟨n,k⟩:=x
   unfold LE at h
   split at h
   ·rename_i m e hu
    cases ht:tyK P e with
    | none=>rw [ht]at h;cases h
    | some y=>
      rw [ht]at h
      simp only [Option.map_some,Option.some.injEq,Prod.mk.injEq]at h
      obtain ⟨rfl,rfl⟩:=h
      obtain ⟨h1,h2⟩:=oH ht
      simp only [cL,hu,h1,YK]
      cases qQ v m<;>rfl
   ·cases h
theorem aIv {n id g off:Nat} {k:Option Nat} {q:IntKind} {i:Int} {d:Option AV} (h0:0<=i) (h1:i<n):YK (some (n,k)) id g off (.int q i) d=some (.ptr id g (off+i.toNat*kJ k)):=by
 simp only [YK,BS h0 h1]
def rS:=@gE
def zO (x:Option Nat) (l:List Nat) (lo hi:Option AV) (d:Option AV):Option AV:=match x with
 | some 0=>(match gD hi l.length l.length with
   | some h=>(match gD lo 0 h with
     | some i=>some (.str (aG l i (h-i)))
     | none=>none)
   | none=>none)
 | _=>d
theorem NX {t:TypeId} {l:List Nat} {lo hi:Option AV}:gE P t (.str l) lo hi none=zO (lF P t) l lo hi (rS P t (.str l) lo hi none):=by
 unfold lF
 cases hu:P.underlying t with
 | none=>rfl
 | some d=>
   cases d<;>try rfl
   rotate_left
   ·show _=zO (some (3+_)) l lo hi _
    rw [Nat.add_comm 3]
    rfl
   simp only [gE,hu,zO]
   cases gD hi l.length l.length with
   | none=>rfl
   | some h=>cases gD lo 0 h<;>rfl
theorem YL {l:List Nat} {j k:IntKind} {a b:Int} {d:Option AV} (h0:0<=a) (h1:a<=b) (h2:b<=l.length):zO (some 0) l (some (.int j a)) (some (.int k b)) d=some (.str (aG l a.toNat (b.toNat-a.toNat))):=by
 simp only [zO,nF (show 0<=b by omega) h2,nF h0 (show a<=(b.toNat:Int) by omega)]
theorem aIw {l:List Nat} {j:IntKind} {a:Int} {d:Option AV} (h0:0<=a) (h1:a<=l.length):zO (some 0) l (some (.int j a)) none d=some (.str (l.drop a.toNat)):=by
 simp only [zO,mM,nF h0 h1]
 simp only [aG]
 rw [List.take_of_length_le (by simp)]
theorem aIx {l:List Nat} {k:IntKind} {b:Int} {d:Option AV} (h0:0<=b) (h2:b<=l.length):zO (some 0) l none (some (.int k b)) d=some (.str (l.take b.toNat)):=by
 simp only [zO,nF h0 h2,mM,aG,List.drop_zero,Nat.sub_zero]
def JQ (x:Option Nat) (v:AV) (lo hi mx:Option AV) (d:Option AV):Option AV:=match x with
 | some k=>uT k v lo hi mx
 | none=>d
theorem EH {t:TypeId} {id g off len:Nat} {c:ACap} {lo hi mx:Option AV}:gE P t (.sl id g off len c) lo hi mx=JQ (qV P t) (.sl id g off len c) lo hi mx (rS P t (.sl id g off len c) lo hi mx):=by
 cases h:qV P t with
 | none=>rfl
 | some k=>
   unfold qV at h
   split at h
   ·rename_i e hu;simp only [gE,hu,h,JQ]
   ·cases h
theorem RX {t:TypeId} {l:List AV} {c:Bool} {lo hi mx:Option AV}:gE P t (.fz l c) lo hi mx=JQ (qV P t) (.fz l c) lo hi mx (rS P t (.fz l c) lo hi mx):=by
 cases h:qV P t with
 | none=>rfl
 | some k=>
   unfold qV at h
   split at h
   ·rename_i e hu;simp only [gE,hu,h,JQ]
   ·cases h
theorem NY {t:TypeId} {lo hi mx:Option AV}:gE P t .nils lo hi mx=JQ (qV P t) .nils lo hi mx (rS P t .nils lo hi mx):=by
 cases h:qV P t with
 | none=>rfl
 | some k=>
   unfold qV at h
   split at h
   ·rename_i e hu;simp only [gE,hu,h,JQ]
   ·cases h
inductive CvK where
 | int (k:IntKind)
 | str
 | bytes
 | ofBytes
def cvK (P:Program) (src dst:TypeId):Option CvK:=match P.underlying src,P.underlying dst with
 | some (.int _),some (.int k)=>some (.int k)
 | some .string,some .string=>some .str
 | some .string,some (.slice e)=>(match P.underlying e with
   | some (.int .u8)=>some .bytes
   | _=>none)
 | some (.slice e),some .string=>(match P.underlying e with
   | some (.int .u8)=>some .ofBytes
   | _=>none)
 | _,_=>none
def aDz:=@kF
def NZ (x:Option CvK) (s:Sto) (v:AV) (d:Option ORes):Option ORes:=match x,v with
 | some (.int k),.int _ n=>some (.val (.int k (k.wrap n)))
 | some .str,.str l=>some (.val (.str l))
 | some .bytes,.str l=>some (.val' (.sl s.n 0 0 l.length (.room 1)) (s.push (ob (fK l))))
 | some .ofBytes,.str l=>some (.val (.str l))
 | some .ofBytes,v=>(match oV v with
   | some n=>(match eI s 1 n v with
     | some l=>(match Go.Abs.ofBytes l with
       | some b=>some (.val (.str b))
       | none=>none)
     | none=>none)
   | none=>none)
 | _,_=>d
theorem xM (l:List Nat):(fK l).all AV.isCell=true:=by simp [fK,AV.isCell]
theorem xN {s:Sto} {src dst:TypeId} {v:AV}:kF P s src dst v=NZ (cvK P src dst) s v (aDz P s src dst v):=by
 cases h:cvK P src dst with
 | none=>cases v<;>rfl
 | some x=>
   unfold cvK at h
   split at h
   ·rename_i k0 k h1 h2
    cases h
    cases v<;>first | rfl | (simp only [kF,h1,h2,NZ,dR])
   ·rename_i h1 h2
    cases h
    cases v<;>first | rfl | (simp only [kF,h1,h2,NZ])
   ·rename_i e h1 h2
    split at h
    ·rename_i h3
     cases h
     cases v<;>first | rfl | (simp only [kF,h1,h2,h3,NZ,uJ,xM,if_true])
    ·cases h
   ·rename_i e h1 h2
    split at h
    ·rename_i h3
     cases h
     cases v<;>first | rfl | (simp only [kF,h1,h2,h3,oV,NZ];done) | (simp only [kF,h1,h2,h3,oV,NZ];rfl) | (simp only [kF,h1,h2,h3,oV,NZ];generalize eI s 1 _ _=q;cases q with | none=>rfl | some l=>rfl)
    ·cases h
   ·cases h
theorem YM {s:Sto} {l:List Nat} {d:Option ORes}:NZ (some .bytes) s (.str l) d=some (.val' (.sl s.n 0 0 l.length (.room 1)) (s.push (ob (fK l)))):=rfl
end
end Go.Abs
