/-
  The abstract machine: operations by facts on types that a program's own text gives.
-/
import Derived.Test.YtajngkkihadgfaaEf
set_option linter.unusedVariables false
set_option linter.unusedSimpArgs false
namespace Go.Abs
noncomputable section
variable {P:Program}
def IV:=@fU
def UJ:=@mQ
def tyC (x:Option (Option Nat)) (o:Option AObj) (g off:Nat) (d:Option AV):Option AV:=match x with
 | some x=>XI (some x) o g off
 | none=>d
theorem aHf {s:Sto} {t:TypeId} {id g off:Nat}:fU P s t (.ptr id g off)=tyC (tyK P t) (s.get id) g off (IV P s t (.ptr id g off)):=by
 cases h:tyK P t with
 | none=>rfl
 | some x=>rw [XJ h];rfl
def stC (x:Option (Option Nat)) (s:Sto) (id g off:Nat) (v:AV) (o:Option AObj) (d:Option Sto):Option Sto:=match x with
 | some x=>stK s (some x) id g off v o
 | none=>d
theorem aCm {s:Sto} {t:TypeId} {id g off:Nat} {v:AV}:mQ P s t (.ptr id g off) v=stC (tyK P t) s id g off v (s.get id) (UJ P s t (.ptr id g off) v):=by
 cases h:tyK P t with
 | none=>rfl
 | some x=>rw [RD h];rfl
def pfC (x:Option (Option Nat)) (v:AV) (d:Option AV):Option AV:=match x with
 | some none=>bif v.isCell then some v else none
 | some (some k)=>(match v with
   | .agg cs=>bif Nat.beq cs.length k then some (.agg cs) else none
   | _=>none)
 | none=>d
theorem XC {s:Sto} {t:TypeId} {v:AV}:fU P s t (.pf v)=pfC (tyK P t) v (IV P s t (.pf v)):=by
 cases h:tyK P t with
 | none=>rfl
 | some x=>
   obtain ⟨h1,h2⟩:=nU h
   cases x with
   | none=>simp only [fU,h1,h2,pfC,kE,Option.isSome]
   | some k=>
     simp only [fU,h1,h2,pfC,kE,Option.isSome]
     cases v<;>rfl
theorem bU {v:AV} {d:Option AV} (h:v.isCell=true):pfC (some none) v d=some v:=by simp [pfC,h]
theorem cM {cs:List AV} {k:Nat} {d:Option AV} (h:cs.length=k):pfC (some (some k)) (.agg cs) d=some (.agg cs):=by simp [pfC,h]
def oS:=@bZ
def UK:=@pQ
def aLg (x:Option (Nat × Option Nat)) (id g o:Nat) (d:Option AV):Option AV:=match x with
 | some (off,_)=>some (.ptr id g (o+off))
 | none=>d
theorem IW {t:TypeId} {id g o f:Nat}:bZ P t (.ptr id g o) f=aLg (fR P t f) id g o (oS P t (.ptr id g o) f):=by
 cases h:fR P t f with
 | none=>rfl
 | some x=>obtain ⟨off,y⟩:=x;rw [DP h];rfl
def aLh (x:Option (Nat × Option Nat)) (cs:List AV) (d:Option AV):Option AV:=match x with
 | some (off,y)=>ptK y cs off
 | none=>d
theorem aCn {t:TypeId} {cs:List AV} {f:Nat}:pQ P t (.agg cs) f=aLh (fR P t f) cs (UK P t (.agg cs) f):=by
 cases h:fR P t f with
 | none=>rfl
 | some x=>obtain ⟨off,y⟩:=x;rw [RF h];rfl
theorem aHg {cs:List AV} {off n:Nat} (h:off+n<=cs.length):ptK (some n) cs off=some (.agg (aG cs off n)):=by
 have:Nat.ble (off+n) cs.length=true:=by simpa using h
 simp [ptK,this]
def EZ (x:Option (Nat × Option Nat)) (cs:List AV) (d:Option AV):Option AV:=match x with
 | some (off,none)=>(match cs[off]? with
   | some v=>bif v.isCell then some (.pf v) else none
   | none=>none)
 | some (off,some n)=>bif Nat.ble (off+n) cs.length then some (.pf (.agg (aG cs off n))) else none
 | none=>d
theorem DI {t:TypeId} {cs:List AV} {f:Nat}:bZ P t (.pf (.agg cs)) f=EZ (fR P t f) cs (oS P t (.pf (.agg cs)) f):=by
 cases h:fR P t f with
 | none=>rfl
 | some x=>
   obtain ⟨off,y⟩:=x
   unfold fR at h
   split at h
   ·rename_i fields hu
    split at h
    ·rename_i fd hfd
     split at h
     ·rename_i z hz
      split at h
      ·cases h
      ·rename_i hne
       simp only [Option.some.injEq,Prod.mk.injEq]at h
       obtain ⟨rfl,rfl⟩:=h
       obtain ⟨h1,h2⟩:=nU hz
       have:∃ m,kE z=m+1:=by
        cases z with
        | none=>exact ⟨0,rfl⟩
        | some n=>cases n with
          | zero=>exact absurd rfl hne
          | succ m=>exact ⟨m,rfl⟩
       obtain ⟨m,hm⟩:=this
       rw [hm]at h1
       cases z with
       | none=>
         have h2':zF P fd.type=some false:=h2
         simp only [bZ,hu,hfd,h1,uF,tN hz,ptK,h2',EZ]
         cases cs[fd.offset]?<;>rfl
       | some n=>
         have h2':zF P fd.type=some true:=h2
         simp only [bZ,hu,hfd,h1,uF,tN hz,ptK,h2',EZ]
         cases Nat.ble (fd.offset+n) cs.length<;>rfl
     ·cases h
    ·cases h
   ·cases h
theorem aCo {off:Nat} {cs:List AV} {d:Option AV} {v:AV} (h:cs[off]?=some v) (hc:v.isCell=true):EZ (some (off,none)) cs d=some (.pf v):=by simp [EZ,h,hc]
def mC (P:Program) (t:TypeId):Option Nat:=match P.underlying t with
 | some .string=>some 0
 | some (.slice _)=>some 1
 | some (.map _ _)=>some 2
 | some (.array n _)=>some (3+n)
 | _=>none
def tL:=@abuiltin
def IX (x:Option Nat) (s:Sto) (v:AV) (d:Option ORes):Option ORes:=match x with
 | some 0=>(match v with
   | .str l=>some (.val (.int .i64 (l.length:Nat)))
   | _=>none)
 | some 1=>(match v with
   | .str _=>none
   | v=>(match oM v with
     | some n=>some (.val (.int .i64 (n:Nat)))
     | none=>none))
 | some 2=>(match v with
   | .nilm=>some (.val (.int .i64 0))
   | .map id=>(match s.get id with
     | some (.map es _)=>some (.val (.int .i64 (es.length:Nat)))
     | _=>none)
   | _=>none)
 | some (n+3)=>some (.val (.int .i64 (n:Nat)))
 | none=>d
theorem aLi {s:Sto} {t:TypeId} {v:AV}:abuiltin P s .len [t].toArray [v]=IX (mC P t) s v (tL P s .len [t].toArray [v]):=by
 have h0:([t].toArray)[0]?=some t:=rfl
 cases h:mC P t with
 | none=>rfl
 | some x=>
   unfold mC at h
   simp only [abuiltin,h0]
   cases hu:P.underlying t with
   | none=>rw [hu]at h;cases h
   | some d=>
     rw [hu]at h
     cases d with
     | string=>simp only [Option.some.injEq]at h;subst h;cases v<;>rfl
     | slice e=>simp only [Option.some.injEq]at h;subst h;cases v<;>rfl
     | map k e=>simp only [Option.some.injEq]at h;subst h;cases v<;>rfl
     | array n e=>
       simp only [Option.some.injEq]at h
       subst h
       rw [show 3+n=n+3 by omega]
       cases v<;>rfl
     | _=>cases h
theorem BH {k:IntKind} {i:Int} {n:Nat} (h0:0<=i) (h1:i<n):qL (.int k i) n=some i.toNat:=by
 obtain ⟨m,rfl⟩:=Int.eq_ofNat_of_zero_le h0
 have:Nat.blt m n=true:=by simp;omega
 show (bif Nat.blt m n then some m else none)=_
 rw [this];rfl
theorem mD {d n:Nat}:gJ none d n=some d:=rfl
theorem mX {k:IntKind} {i:Int} {d n:Nat} (h0:0<=i) (h1:i<=n):gJ (some (.int k i)) d n=some i.toNat:=by
 obtain ⟨m,rfl⟩:=Int.eq_ofNat_of_zero_le h0
 have:Nat.ble m n=true:=by simp;omega
 show (bif Nat.ble m n then some m else none)=_
 rw [this];rfl
def UL:=@oD
def gC:=@cA
def QW (x:Option Nat) (l:List Nat) (v:AV) (d:Option AV):Option AV:=match x with
 | some 0=>(match qL v l.length with
   | some i=>some (.int .u8 ((l.getD i 0:Nat):Int))
   | none=>none)
 | _=>d
theorem aCp {t:TypeId} {l:List Nat} {v:AV}:oD P t (.str l) v=QW (mC P t) l v (UL P t (.str l) v):=by
 unfold mC
 cases hu:P.underlying t with
 | none=>rfl
 | some d=>
   cases d<;>try rfl
   rotate_left
   ·show _=QW (some (3+_)) l v _
    rw [Nat.add_comm 3]
    rfl
   simp only [oD,hu,QW]
   cases hi:qL v l.length with
   | none=>rfl
   | some i=>
     simp only
     have:i<l.length:=by
      unfold qL at hi
      split at hi
      ·rename_i j
       cases hb:Nat.blt j l.length with
       | true=>rw [hb]at hi;simp at hi;subst hi;simpa using hb
       | false=>rw [hb]at hi;cases hi
      ·cases hi
     rw [List.getElem?_eq_getElem this]
     simp [List.getD_eq_getElem?_getD,this]
theorem aHh {l:List Nat} {k:IntKind} {i:Int} {d:Option AV} (h0:0<=i) (h1:i<l.length):QW (some 0) l (.int k i) d=some (.int .u8 ((l.getD i.toNat 0:Nat):Int)):=by
 simp only [QW,BH h0 h1]
def eU (x:Option Nat) (l:List AV) (v:AV) (d:Option AV):Option AV:=match x with
 | some k=>(match qL v l.length with
   | some i=>(match l[i]? with
     | some a=>bif Nat.beq a.cells.length k then some (.pf a) else none
     | none=>none)
   | none=>none)
 | none=>d
theorem sP {t:TypeId} {l:List AV} {c:Bool} {v:AV}:cA P t (.fz l c) v=eU (rV P t) l v (gC P t (.fz l c) v):=by
 cases h:rV P t with
 | none=>rfl
 | some k=>
   unfold rV at h
   split at h
   ·rename_i e hu
    simp only [cA,hu,h,eU]
    cases qL v l.length<;>rfl
   ·cases h
theorem iL {k:Nat} {l:List AV} {q:IntKind} {i:Int} {d:Option AV} {a:AV} (h0:0<=i) (h1:i<l.length) (ha:l[i.toNat]?=some a) (hk:a.cells.length=k):eU (some k) l (.int q i) d=some (.pf a):=by
 have:Nat.beq a.cells.length k=true:=by rw [hk];exact Nat.beq_refl k
 simp only [eU,BH h0 h1,ha,this,cond_true]
def XD (x:Option Nat) (id g off len:Nat) (v:AV) (d:Option AV):Option AV:=match x with
 | some k=>(match qL v len with
   | some i=>some (.ptr id g (off+i*k))
   | none=>none)
 | none=>d
theorem DJ {t:TypeId} {id g off len:Nat} {c:ACap} {v:AV}:cA P t (.sl id g off len c) v=XD (rV P t) id g off len v (gC P t (.sl id g off len c) v):=by
 cases h:rV P t with
 | none=>rfl
 | some k=>
   unfold rV at h
   split at h
   ·rename_i e hu
    simp only [cA,hu,h,XD]
    cases qL v len<;>rfl
   ·cases h
theorem aHi {k id g off len:Nat} {q:IntKind} {i:Int} {d:Option AV} (h0:0<=i) (h1:i<len):XD (some k) id g off len (.int q i) d=some (.ptr id g (off+i.toNat*k)):=by
 simp only [XD,BH h0 h1]
def XE (x:Option (Nat × Option Nat)) (id g off:Nat) (v:AV) (d:Option AV):Option AV:=match x with
 | some (n,k)=>(match qL v n with
   | some i=>some (.ptr id g (off+i*kE k))
   | none=>none)
 | none=>d
theorem AW {t:TypeId} {id g off:Nat} {v:AV}:cA P t (.ptr id g off) v=XE (NQ P t) id g off v (gC P t (.ptr id g off) v):=by
 cases h:NQ P t with
 | none=>rfl
 | some x=>
   obtain ⟨n,k⟩:=x
   unfold NQ at h
   split at h
   ·rename_i m e hu
    cases ht:tyK P e with
    | none=>rw [ht]at h;cases h
    | some y=>
      rw [ht]at h
      simp only [Option.map_some,Option.some.injEq,Prod.mk.injEq]at h
      obtain ⟨rfl,rfl⟩:=h
      obtain ⟨h1,h2⟩:=nU ht
      simp only [cA,hu,h1,XE]
      cases qL v m<;>rfl
   ·cases h
theorem aHj {n id g off:Nat} {k:Option Nat} {q:IntKind} {i:Int} {d:Option AV} (h0:0<=i) (h1:i<n):XE (some (n,k)) id g off (.int q i) d=some (.ptr id g (off+i.toNat*kE k)):=by
 simp only [XE,BH h0 h1]
def rC:=@gK
def xH (x:Option Nat) (l:List Nat) (lo hi:Option AV) (d:Option AV):Option AV:=match x with
 | some 0=>(match gJ hi l.length l.length with
   | some h=>(match gJ lo 0 h with
     | some i=>some (.str (aG l i (h-i)))
     | none=>none)
   | none=>none)
 | _=>d
theorem NH {t:TypeId} {l:List Nat} {lo hi:Option AV}:gK P t (.str l) lo hi none=xH (mC P t) l lo hi (rC P t (.str l) lo hi none):=by
 unfold mC
 cases hu:P.underlying t with
 | none=>rfl
 | some d=>
   cases d<;>try rfl
   rotate_left
   ·show _=xH (some (3+_)) l lo hi _
    rw [Nat.add_comm 3]
    rfl
   simp only [gK,hu,xH]
   cases gJ hi l.length l.length with
   | none=>rfl
   | some h=>cases gJ lo 0 h<;>rfl
theorem GW {l:List Nat} {j k:IntKind} {a b:Int} {d:Option AV} (h0:0<=a) (h1:a<=b) (h2:b<=l.length):xH (some 0) l (some (.int j a)) (some (.int k b)) d=some (.str (aG l a.toNat (b.toNat-a.toNat))):=by
 simp only [xH,mX (show 0<=b by omega) h2,mX h0 (show a<=(b.toNat:Int) by omega)]
theorem aHk {l:List Nat} {j:IntKind} {a:Int} {d:Option AV} (h0:0<=a) (h1:a<=l.length):xH (some 0) l (some (.int j a)) none d=some (.str (l.drop a.toNat)):=by
 simp only [xH,mD,mX h0 h1]
 simp only [aG]
 rw [List.take_of_length_le (by simp)]
theorem aHl {l:List Nat} {k:IntKind} {b:Int} {d:Option AV} (h0:0<=b) (h2:b<=l.length):xH (some 0) l none (some (.int k b)) d=some (.str (l.take b.toNat)):=by
 simp only [xH,mX h0 h2,mD,aG,List.drop_zero,Nat.sub_zero]
def IY (x:Option Nat) (v:AV) (lo hi mx:Option AV) (d:Option AV):Option AV:=match x with
 | some k=>uE k v lo hi mx
 | none=>d
theorem DK {t:TypeId} {id g off len:Nat} {c:ACap} {lo hi mx:Option AV}:gK P t (.sl id g off len c) lo hi mx=IY (rV P t) (.sl id g off len c) lo hi mx (rC P t (.sl id g off len c) lo hi mx):=by
 cases h:rV P t with
 | none=>rfl
 | some k=>
   unfold rV at h
   split at h
   ·rename_i e hu;simp only [gK,hu,h,IY]
   ·cases h
theorem QX {t:TypeId} {l:List AV} {c:Bool} {lo hi mx:Option AV}:gK P t (.fz l c) lo hi mx=IY (rV P t) (.fz l c) lo hi mx (rC P t (.fz l c) lo hi mx):=by
 cases h:rV P t with
 | none=>rfl
 | some k=>
   unfold rV at h
   split at h
   ·rename_i e hu;simp only [gK,hu,h,IY]
   ·cases h
theorem NI {t:TypeId} {lo hi mx:Option AV}:gK P t .nils lo hi mx=IY (rV P t) .nils lo hi mx (rC P t .nils lo hi mx):=by
 cases h:rV P t with
 | none=>rfl
 | some k=>
   unfold rV at h
   split at h
   ·rename_i e hu;simp only [gK,hu,h,IY]
   ·cases h
inductive CvK where
 | int (k:IntKind)
 | str
 | bytes
 | ofBytes
def cvK (P:Program) (src dst:TypeId):Option CvK:=match P.underlying src,P.underlying dst with
 | some (.int _),some (.int k)=>some (.int k)
 | some .string,some .string=>some .str
 | some .string,some (.slice e)=>(match P.underlying e with
   | some (.int .u8)=>some .bytes
   | _=>none)
 | some (.slice e),some .string=>(match P.underlying e with
   | some (.int .u8)=>some .ofBytes
   | _=>none)
 | _,_=>none
def aCr:=@kA
def PF (x:Option CvK) (s:Sto) (v:AV) (d:Option ORes):Option ORes:=match x,v with
 | some (.int k),.int _ n=>some (.val (.int k (k.wrap n)))
 | some .str,.str l=>some (.val (.str l))
 | some .bytes,.str l=>some (.val' (.sl s.n 0 0 l.length (.room 1)) (s.push (ob (gL l))))
 | some .ofBytes,.str l=>some (.val (.str l))
 | some .ofBytes,v=>(match oM v with
   | some n=>(match eJ s 1 n v with
     | some l=>(match Go.Abs.ofBytes l with
       | some b=>some (.val (.str b))
       | none=>none)
     | none=>none)
   | none=>none)
 | _,_=>d
theorem xI (l:List Nat):(gL l).all AV.isCell=true:=by simp [gL,AV.isCell]
theorem xJ {s:Sto} {src dst:TypeId} {v:AV}:kA P s src dst v=PF (cvK P src dst) s v (aCr P s src dst v):=by
 cases h:cvK P src dst with
 | none=>cases v<;>rfl
 | some x=>
   unfold cvK at h
   split at h
   ·rename_i k0 k h1 h2
    cases h
    cases v<;>first | rfl | (simp only [kA,h1,h2,PF,dH])
   ·rename_i h1 h2
    cases h
    cases v<;>first | rfl | (simp only [kA,h1,h2,PF])
   ·rename_i e h1 h2
    split at h
    ·rename_i h3
     cases h
     cases v<;>first | rfl | (simp only [kA,h1,h2,h3,PF,tS,xI,if_true])
    ·cases h
   ·rename_i e h1 h2
    split at h
    ·rename_i h3
     cases h
     cases v<;>first | rfl | (simp only [kA,h1,h2,h3,oM,PF];done) | (simp only [kA,h1,h2,h3,oM,PF];rfl) | (simp only [kA,h1,h2,h3,oM,PF];generalize eJ s 1 _ _=q;cases q with | none=>rfl | some l=>rfl)
    ·cases h
   ·cases h
end
end Go.Abs
