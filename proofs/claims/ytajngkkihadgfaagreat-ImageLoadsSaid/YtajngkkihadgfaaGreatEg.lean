/-
  The abstract machine: operations by facts on types that a program's own text gives.
-/
import Derived.Test.YtajngkkihadgfaaGreatEf
namespace Go.Abs
noncomputable section
variable {P:Program}
def LJ:=@gR
def WJ:=@nR
def tyC (x:Option (Option Nat)) (o:Option AObj) (g off:Nat) (d:Option AV):Option AV:=match x with
 | some x=>HD (some x) o g off
 | none=>d
theorem aIr {s:Sto} {t:TypeId} {id g off:Nat}:gR P s t (.ptr id g off)=tyC (tyK P t) (s.get id) g off (LJ P s t (.ptr id g off)):=by
 cases h:tyK P t with
 | none=>rfl
 | some x=>rw [ZP h];rfl
def stC (x:Option (Option Nat)) (s:Sto) (id g off:Nat) (v:AV) (o:Option AObj) (d:Option Sto):Option Sto:=match x with
 | some x=>stK s (some x) id g off v o
 | none=>d
theorem aEe {s:Sto} {t:TypeId} {id g off:Nat} {v:AV}:nR P s t (.ptr id g off) v=stC (tyK P t) s id g off v (s.get id) (WJ P s t (.ptr id g off) v):=by
 cases h:tyK P t with
 | none=>rfl
 | some x=>rw [TL h];rfl
def pfC (x:Option (Option Nat)) (v:AV) (d:Option AV):Option AV:=match x with
 | some none=>bif v.isCell then some v else none
 | some (some k)=>(match v with
   | .agg cs=>bif Nat.beq cs.length k then some (.agg cs) else none
   | _=>none)
 | none=>d
theorem ZI {s:Sto} {t:TypeId} {v:AV}:gR P s t (.pf v)=pfC (tyK P t) v (LJ P s t (.pf v)):=by
 cases h:tyK P t with
 | none=>rfl
 | some x=>
   obtain ⟨h1,h2⟩:=qT h
   cases x with
   | none=>simp only [gR,h1,h2,pfC,mD,Option.isSome]
   | some k=>
     simp only [gR,h1,h2,pfC,mD,Option.isSome]
     cases v<;>rfl
theorem aIs {v:AV} {d:Option AV} (h:v.isCell=true):pfC (some none) v d=some v:=by simp [pfC,h]
theorem WK {cs:List AV} {k:Nat} {d:Option AV} (h:cs.length=k):pfC (some (some k)) (.agg cs) d=some (.agg cs):=by simp [pfC,h]
def qD:=@cP
def WL:=@qZ
def aMc (x:Option (Nat × Option Nat)) (id g o:Nat) (d:Option AV):Option AV:=match x with
 | some (off,_)=>some (.ptr id g (o+off))
 | none=>d
theorem LK {t:TypeId} {id g o f:Nat}:cP P t (.ptr id g o) f=aMc (fU P t f) id g o (qD P t (.ptr id g o) f):=by
 cases h:fU P t f with
 | none=>rfl
 | some x=>obtain ⟨off,y⟩:=x;rw [GD h];rfl
def aMd (x:Option (Nat × Option Nat)) (cs:List AV) (d:Option AV):Option AV:=match x with
 | some (off,y)=>ptK y cs off
 | none=>d
theorem aEg {t:TypeId} {cs:List AV} {f:Nat}:qZ P t (.agg cs) f=aMd (fU P t f) cs (WL P t (.agg cs) f):=by
 cases h:fU P t f with
 | none=>rfl
 | some x=>obtain ⟨off,y⟩:=x;rw [TN h];rfl
theorem aIt {cs:List AV} {off n:Nat} (h:off+n<=cs.length):ptK (some n) cs off=some (.agg (aG cs off n)):=by
 have:Nat.ble (off+n) cs.length=true:=by simpa using h
 simp [ptK,this]
def HQ (x:Option (Nat × Option Nat)) (cs:List AV) (d:Option AV):Option AV:=match x with
 | some (off,none)=>(match cs[off]? with
   | some v=>bif v.isCell then some (.pf v) else none
   | none=>none)
 | some (off,some n)=>bif Nat.ble (off+n) cs.length then some (.pf (.agg (aG cs off n))) else none
 | none=>d
theorem FU {t:TypeId} {cs:List AV} {f:Nat}:cP P t (.pf (.agg cs)) f=HQ (fU P t f) cs (qD P t (.pf (.agg cs)) f):=by
 cases h:fU P t f with
 | none=>rfl
 | some x=>
   obtain ⟨off,y⟩:=x
   unfold fU at h
   split at h
   ·rename_i fields hu
    split at h
    ·rename_i fd hfd
     split at h
     ·rename_i z hz
      split at h
      ·cases h
      ·rename_i hne
       simp only [Option.some.injEq,Prod.mk.injEq]at h
       obtain ⟨rfl,rfl⟩:=h
       obtain ⟨h1,h2⟩:=qT hz
       have:∃ m,mD z=m+1:=by
        cases z with
        | none=>exact ⟨0,rfl⟩
        | some n=>cases n with
          | zero=>exact absurd rfl hne
          | succ m=>exact ⟨m,rfl⟩
       obtain ⟨m,hm⟩:=this
       rw [hm]at h1
       cases z with
       | none=>
         have h2':BE P fd.type=some false:=h2
         simp only [cP,hu,hfd,h1,vY,oS hz,ptK,h2',HQ]
         cases cs[fd.offset]?<;>rfl
       | some n=>
         have h2':BE P fd.type=some true:=h2
         simp only [cP,hu,hfd,h1,vY,oS hz,ptK,h2',HQ]
         cases Nat.ble (fd.offset+n) cs.length<;>rfl
     ·cases h
    ·cases h
   ·cases h
theorem aEh {off:Nat} {cs:List AV} {d:Option AV} {v:AV} (h:cs[off]?=some v) (hc:v.isCell=true):HQ (some (off,none)) cs d=some (.pf v):=by simp [HQ,h,hc]
def lZ (P:Program) (t:TypeId):Option Nat:=match P.underlying t with
 | some .string=>some 0
 | some (.slice _)=>some 1
 | some (.map _ _)=>some 2
 | some (.array n _)=>some (3+n)
 | _=>none
def vG:=@abuiltin
def PG (x:Option Nat) (s:Sto) (v:AV) (d:Option ORes):Option ORes:=match x with
 | some 0=>(match v with
   | .str l=>some (.val (.int .i64 (l.length:Nat)))
   | _=>none)
 | some 1=>(match v with
   | .str _=>none
   | v=>(match pQ v with
     | some n=>some (.val (.int .i64 (n:Nat)))
     | none=>none))
 | some 2=>(match v with
   | .nilm=>some (.val (.int .i64 0))
   | .map id=>(match s.get id with
     | some (.map es _)=>some (.val (.int .i64 (es.length:Nat)))
     | _=>none)
   | _=>none)
 | some (n+3)=>some (.val (.int .i64 (n:Nat)))
 | none=>d
theorem aMe {s:Sto} {t:TypeId} {v:AV}:abuiltin P s .len [t].toArray [v]=PG (lZ P t) s v (vG P s .len [t].toArray [v]):=by
 have h0:([t].toArray)[0]?=some t:=rfl
 cases h:lZ P t with
 | none=>rfl
 | some x=>
   unfold lZ at h
   simp only [abuiltin,h0]
   cases hu:P.underlying t with
   | none=>rw [hu]at h;cases h
   | some d=>
     rw [hu]at h
     cases d with
     | string=>simp only [Option.some.injEq]at h;subst h;cases v<;>rfl
     | slice e=>simp only [Option.some.injEq]at h;subst h;cases v<;>rfl
     | map k e=>simp only [Option.some.injEq]at h;subst h;cases v<;>rfl
     | array n e=>
       simp only [Option.some.injEq]at h
       subst h
       rw [show 3+n=n+3 by omega]
       cases v<;>rfl
     | _=>cases h
theorem CZ {k:IntKind} {i:Int} {n:Nat} (h0:0<=i) (h1:i<n):rR (.int k i) n=some i.toNat:=by
 obtain ⟨m,rfl⟩:=Int.eq_ofNat_of_zero_le h0
 have:Nat.blt m n=true:=by simp;omega
 show (bif Nat.blt m n then some m else none)=_
 rw [this];rfl
theorem rH {d n:Nat}:iS none d n=some d:=rfl
theorem sS {k:IntKind} {i:Int} {d n:Nat} (h0:0<=i) (h1:i<=n):iS (some (.int k i)) d n=some i.toNat:=by
 obtain ⟨m,rfl⟩:=Int.eq_ofNat_of_zero_le h0
 have:Nat.ble m n=true:=by simp;omega
 show (bif Nat.ble m n then some m else none)=_
 rw [this];rfl
def WM:=@pO
def gX:=@cQ
def TE (x:Option Nat) (l:List Nat) (v:AV) (d:Option AV):Option AV:=match x with
 | some 0=>(match rR v l.length with
   | some i=>some (.int .u8 ((l.getD i 0:Nat):Int))
   | none=>none)
 | _=>d
theorem aEi {t:TypeId} {l:List Nat} {v:AV}:pO P t (.str l) v=TE (lZ P t) l v (WM P t (.str l) v):=by
 unfold lZ
 cases hu:P.underlying t with
 | none=>rfl
 | some d=>
   cases d<;>try rfl
   rotate_left
   ·show _=TE (some (3+_)) l v _
    rw [Nat.add_comm 3]
    rfl
   simp only [pO,hu,TE]
   cases hi:rR v l.length with
   | none=>rfl
   | some i=>
     simp only
     have:i<l.length:=by
      unfold rR at hi
      split at hi
      ·rename_i j
       cases hb:Nat.blt j l.length with
       | true=>rw [hb]at hi;simp at hi;subst hi;simpa using hb
       | false=>rw [hb]at hi;cases hi
      ·cases hi
     rw [List.getElem?_eq_getElem this]
     simp [List.getD_eq_getElem?_getD,this]
theorem aIu {l:List Nat} {k:IntKind} {i:Int} {d:Option AV} (h0:0<=i) (h1:i<l.length):TE (some 0) l (.int k i) d=some (.int .u8 ((l.getD i.toNat 0:Nat):Int)):=by
 simp only [TE,CZ h0 h1]
def fK (x:Option Nat) (l:List AV) (v:AV) (d:Option AV):Option AV:=match x with
 | some k=>(match rR v l.length with
   | some i=>(match l[i]? with
     | some a=>bif Nat.beq a.cells.length k then some (.pf a) else none
     | none=>none)
   | none=>none)
 | none=>d
theorem uC {t:TypeId} {l:List AV} {c:Bool} {v:AV}:cQ P t (.fz l c) v=fK (AU P t) l v (gX P t (.fz l c) v):=by
 cases h:AU P t with
 | none=>rfl
 | some k=>
   unfold AU at h
   split at h
   ·rename_i e hu
    simp only [cQ,hu,h,fK]
    cases rR v l.length<;>rfl
   ·cases h
theorem qE {k:Nat} {l:List AV} {q:IntKind} {i:Int} {d:Option AV} {a:AV} (h0:0<=i) (h1:i<l.length) (ha:l[i.toNat]?=some a) (hk:a.cells.length=k):fK (some k) l (.int q i) d=some (.pf a):=by
 have:Nat.beq a.cells.length k=true:=by rw [hk];exact Nat.beq_refl k
 simp only [fK,CZ h0 h1,ha,this,cond_true]
def ZJ (x:Option Nat) (id g off len:Nat) (v:AV) (d:Option AV):Option AV:=match x with
 | some k=>(match rR v len with
   | some i=>some (.ptr id g (off+i*k))
   | none=>none)
 | none=>d
theorem FW {t:TypeId} {id g off len:Nat} {c:ACap} {v:AV}:cQ P t (.sl id g off len c) v=ZJ (AU P t) id g off len v (gX P t (.sl id g off len c) v):=by
 cases h:AU P t with
 | none=>rfl
 | some k=>
   unfold AU at h
   split at h
   ·rename_i e hu
    simp only [cQ,hu,h,ZJ]
    cases rR v len<;>rfl
   ·cases h
theorem aIv {k id g off len:Nat} {q:IntKind} {i:Int} {d:Option AV} (h0:0<=i) (h1:i<len):ZJ (some k) id g off len (.int q i) d=some (.ptr id g (off+i.toNat*k)):=by
 simp only [ZJ,CZ h0 h1]
def ZK (x:Option (Nat × Option Nat)) (id g off:Nat) (v:AV) (d:Option AV):Option AV:=match x with
 | some (n,k)=>(match rR v n with
   | some i=>some (.ptr id g (off+i*mD k))
   | none=>none)
 | none=>d
theorem CL {t:TypeId} {id g off:Nat} {v:AV}:cQ P t (.ptr id g off) v=ZK (MU P t) id g off v (gX P t (.ptr id g off) v):=by
 cases h:MU P t with
 | none=>rfl
 | some x=>
   obtain ⟨n,k⟩:=x
   unfold MU at h
   split at h
   ·rename_i m e hu
    cases ht:tyK P e with
    | none=>rw [ht]at h;cases h
    | some y=>
      rw [ht]at h
      simp only [Option.map_some,Option.some.injEq,Prod.mk.injEq]at h
      obtain ⟨rfl,rfl⟩:=h
      obtain ⟨h1,h2⟩:=qT ht
      simp only [cQ,hu,h1,ZK]
      cases rR v m<;>rfl
   ·cases h
theorem aIw {n id g off:Nat} {k:Option Nat} {q:IntKind} {i:Int} {d:Option AV} (h0:0<=i) (h1:i<n):ZK (some (n,k)) id g off (.int q i) d=some (.ptr id g (off+i.toNat*mD k)):=by
 simp only [ZK,CZ h0 h1]
def yZ:=@lT
def AT (x:Option Nat) (l:List Nat) (lo hi:Option AV) (d:Option AV):Option AV:=match x with
 | some 0=>(match iS hi l.length l.length with
   | some h=>(match iS lo 0 h with
     | some i=>some (.str (aG l i (h-i)))
     | none=>none)
   | none=>none)
 | _=>d
theorem PH {t:TypeId} {l:List Nat} {lo hi:Option AV}:lT P t (.str l) lo hi none=AT (lZ P t) l lo hi (yZ P t (.str l) lo hi none):=by
 unfold lZ
 cases hu:P.underlying t with
 | none=>rfl
 | some d=>
   cases d<;>try rfl
   rotate_left
   ·show _=AT (some (3+_)) l lo hi _
    rw [Nat.add_comm 3]
    rfl
   simp only [lT,hu,AT]
   cases iS hi l.length l.length with
   | none=>rfl
   | some h=>cases iS lo 0 h<;>rfl
theorem ZL {l:List Nat} {j k:IntKind} {a b:Int} {d:Option AV} (h0:0<=a) (h1:a<=b) (h2:b<=l.length):AT (some 0) l (some (.int j a)) (some (.int k b)) d=some (.str (aG l a.toNat (b.toNat-a.toNat))):=by
 simp only [AT,sS (show 0<=b by omega) h2,sS h0 (show a<=(b.toNat:Int) by omega)]
theorem aIx {l:List Nat} {j:IntKind} {a:Int} {d:Option AV} (h0:0<=a) (h1:a<=l.length):AT (some 0) l (some (.int j a)) none d=some (.str (l.drop a.toNat)):=by
 simp only [AT,rH,sS h0 h1]
 simp only [aG]
 rw [List.take_of_length_le (by simp)]
theorem aIy {l:List Nat} {k:IntKind} {b:Int} {d:Option AV} (h0:0<=b) (h2:b<=l.length):AT (some 0) l none (some (.int k b)) d=some (.str (l.take b.toNat)):=by
 simp only [AT,sS h0 h2,rH,aG,List.drop_zero,Nat.sub_zero]
def aIz (x:Option Nat) (v:AV) (lo hi mx:Option AV) (d:Option AV):Option AV:=match x with
 | some k=>zT k v lo hi mx
 | none=>d
theorem FX {t:TypeId} {id g off len:Nat} {c:ACap} {lo hi mx:Option AV}:lT P t (.sl id g off len c) lo hi mx=aIz (AU P t) (.sl id g off len c) lo hi mx (yZ P t (.sl id g off len c) lo hi mx):=by
 cases h:AU P t with
 | none=>rfl
 | some k=>
   unfold AU at h
   split at h
   ·rename_i e hu;simp only [lT,hu,h,aIz]
   ·cases h
inductive CvK where
 | int (k:IntKind)
 | str
 | bytes
 | ofBytes
def cvK (P:Program) (src dst:TypeId):Option CvK:=match P.underlying src,P.underlying dst with
 | some (.int _),some (.int k)=>some (.int k)
 | some .string,some .string=>some .str
 | some .string,some (.slice e)=>(match P.underlying e with
   | some (.int .u8)=>some .bytes
   | _=>none)
 | some (.slice e),some .string=>(match P.underlying e with
   | some (.int .u8)=>some .ofBytes
   | _=>none)
 | _,_=>none
def aEk:=@kZ
def RC (x:Option CvK) (s:Sto) (v:AV) (d:Option ORes):Option ORes:=match x,v with
 | some (.int k),.int _ n=>some (.val (.int k (k.wrap n)))
 | some .str,.str l=>some (.val (.str l))
 | some .bytes,.str l=>some (.val' (.sl s.n 0 0 l.length (.room 1)) (s.push (ob (iI l))))
 | some .ofBytes,.str l=>some (.val (.str l))
 | some .ofBytes,v=>(match pQ v with
   | some n=>(match eV s 1 n v with
     | some l=>(match Go.Abs.ofBytes l with
       | some b=>some (.val (.str b))
       | none=>none)
     | none=>none)
   | none=>none)
 | _,_=>d
theorem zA (l:List Nat):(iI l).all AV.isCell=true:=by simp [iI,AV.isCell]
theorem aJa {s:Sto} {src dst:TypeId} {v:AV}:kZ P s src dst v=RC (cvK P src dst) s v (aEk P s src dst v):=by
 cases h:cvK P src dst with
 | none=>cases v<;>rfl
 | some x=>
   unfold cvK at h
   split at h
   ·rename_i k0 k h1 h2
    cases h
    cases v<;>first | rfl | (simp only [kZ,h1,h2,RC,eI])
   ·rename_i h1 h2
    cases h
    cases v<;>first | rfl | (simp only [kZ,h1,h2,RC])
   ·rename_i e h1 h2
    split at h
    ·rename_i h3
     cases h
     cases v<;>first | rfl | (simp only [kZ,h1,h2,h3,RC,sT,zA,if_true])
    ·cases h
   ·rename_i e h1 h2
    split at h
    ·rename_i h3
     cases h
     cases v<;>first | rfl | (simp only [kZ,h1,h2,h3,pQ,RC];done) | (simp only [kZ,h1,h2,h3,pQ,RC];rfl) | (simp only [kZ,h1,h2,h3,pQ,RC];generalize eV s 1 _ _=q;cases q with | none=>rfl | some l=>rfl)
    ·cases h
   ·cases h
end
end Go.Abs
