/-
  The abstract machine: operations by facts on types that a program's own text gives.
-/
import Derived.Test.YtdipddlhenoglaaGreatEf
set_option linter.unusedVariables false
set_option linter.unusedSimpArgs false
namespace Go.Abs
noncomputable section
variable {P:Program}
def HQ:=@eH
def SS:=@kU
def tyC (x:Option (Option Nat)) (o:Option AObj) (g off:Nat) (d:Option AV):Option AV:=match x with
 | some x=>ldK (some x) o g off
 | none=>d
theorem aGw {s:Sto} {t:TypeId} {id g off:Nat}:eH P s t (.ptr id g off)=tyC (tyK P t) (s.get id) g off (HQ P s t (.ptr id g off)):=by
 cases h:tyK P t with
 | none=>rfl
 | some x=>rw [WJ h];rfl
def stC (x:Option (Option Nat)) (s:Sto) (id g off:Nat) (v:AV) (o:Option AObj) (d:Option Sto):Option Sto:=match x with
 | some x=>stK s (some x) id g off v o
 | none=>d
theorem aBu {s:Sto} {t:TypeId} {id g off:Nat} {v:AV}:kU P s t (.ptr id g off) v=stC (tyK P t) s id g off v (s.get id) (SS P s t (.ptr id g off) v):=by
 cases h:tyK P t with
 | none=>rfl
 | some x=>rw [PU h];rfl
def VX (x:Option (Option Nat)) (v:AV) (d:Option AV):Option AV:=match x with
 | some none=>bif v.isCell then some v else none
 | some (some k)=>(match v with
   | .agg cs=>bif Nat.beq cs.length k then some (.agg cs) else none
   | _=>none)
 | none=>d
theorem VY {s:Sto} {t:TypeId} {v:AV}:eH P s t (.pf v)=VX (tyK P t) v (HQ P s t (.pf v)):=by
 cases h:tyK P t with
 | none=>rfl
 | some x=>
   obtain ⟨h1,h2⟩:=nO h
   cases x with
   | none=>simp only [eH,h1,h2,VX,gQ,Option.isSome]
   | some k=>
     simp only [eH,h1,h2,VX,gQ,Option.isSome]
     cases v<;>rfl
theorem ST {v:AV} {d:Option AV} (h:v.isCell=true):VX (some none) v d=some v:=by simp [VX,h]
theorem SU {cs:List AV} {k:Nat} {d:Option AV} (h:cs.length=k):VX (some (some k)) (.agg cs) d=some (.agg cs):=by simp [VX,h]
def mV:=@bN
def SV:=@nT
def aKe (x:Option (Nat × Option Nat)) (id g o:Nat) (d:Option AV):Option AV:=match x with
 | some (off,_)=>some (.ptr id g (o+off))
 | none=>d
theorem HR {t:TypeId} {id g o f:Nat}:bN P t (.ptr id g o) f=aKe (bC P t f) id g o (mV P t (.ptr id g o) f):=by
 cases h:bC P t f with
 | none=>rfl
 | some x=>obtain ⟨off,y⟩:=x;rw [CL h];rfl
def aKf (x:Option (Nat × Option Nat)) (cs:List AV) (d:Option AV):Option AV:=match x with
 | some (off,y)=>ptK y cs off
 | none=>d
theorem aBv {t:TypeId} {cs:List AV} {f:Nat}:nT P t (.agg cs) f=aKf (bC P t f) cs (SV P t (.agg cs) f):=by
 cases h:bC P t f with
 | none=>rfl
 | some x=>obtain ⟨off,y⟩:=x;rw [PV h];rfl
theorem aGx {cs:List AV} {off n:Nat} (h:off+n<=cs.length):ptK (some n) cs off=some (.agg (bA cs off n)):=by
 have:Nat.ble (off+n) cs.length=true:=by simpa using h
 simp [ptK,this]
def pM (x:Option (Nat × Option Nat)) (cs:List AV) (d:Option AV):Option AV:=match x with
 | some (off,none)=>(match cs[off]? with
   | some v=>bif v.isCell then some (.pf v) else none
   | none=>none)
 | some (off,some n)=>bif Nat.ble (off+n) cs.length then some (.pf (.agg (bA cs off n))) else none
 | none=>d
theorem BY {t:TypeId} {cs:List AV} {f:Nat}:bN P t (.pf (.agg cs)) f=pM (bC P t f) cs (mV P t (.pf (.agg cs)) f):=by
 cases h:bC P t f with
 | none=>rfl
 | some x=>
   obtain ⟨off,y⟩:=x
   unfold bC at h
   split at h
   ·rename_i fields hu
    split at h
    ·rename_i fd hfd
     split at h
     ·rename_i z hz
      split at h
      ·cases h
      ·rename_i hne
       simp only [Option.some.injEq,Prod.mk.injEq]at h
       obtain ⟨rfl,rfl⟩:=h
       obtain ⟨h1,h2⟩:=nO hz
       have:∃ m,gQ z=m+1:=by
        cases z with
        | none=>exact ⟨0,rfl⟩
        | some n=>cases n with
          | zero=>exact absurd rfl hne
          | succ m=>exact ⟨m,rfl⟩
       obtain ⟨m,hm⟩:=this
       rw [hm]at h1
       cases z with
       | none=>
         have h2':zO P fd.type=some false:=h2
         simp only [bN,hu,hfd,h1,tI,sW hz,ptK,h2',pM]
         cases cs[fd.offset]?<;>rfl
       | some n=>
         have h2':zO P fd.type=some true:=h2
         simp only [bN,hu,hfd,h1,tI,sW hz,ptK,h2',pM]
         cases Nat.ble (fd.offset+n) cs.length<;>rfl
     ·cases h
    ·cases h
   ·cases h
theorem aBw {off:Nat} {cs:List AV} {d:Option AV} {v:AV} (h:cs[off]?=some v) (hc:v.isCell=true):pM (some (off,none)) cs d=some (.pf v):=by simp [pM,h,hc]
theorem aBx {off n:Nat} {cs:List AV} {d:Option AV} (h:off+n<=cs.length):pM (some (off,some n)) cs d=some (.pf (.agg (bA cs off n))):=by
 have:Nat.ble (off+n) cs.length=true:=by simpa using h
 simp [pM,this]
def fY (P:Program) (t:TypeId):Option Nat:=match P.underlying t with
 | some .string=>some 0
 | some (.slice _)=>some 1
 | some (.map _ _)=>some 2
 | some (.array n _)=>some (3+n)
 | _=>none
def oK:=@aV
def BZ (x:Option Nat) (s:Sto) (v:AV) (d:Option ORes):Option ORes:=match x with
 | some 0=>(match v with
   | .str l=>some (.val (.int .i64 (l.length:Nat)))
   | _=>none)
 | some 1=>(match v with
   | .str _=>none
   | v=>(match oS v with
     | some n=>some (.val (.int .i64 (n:Nat)))
     | none=>none))
 | some 2=>(match v with
   | .nilm=>some (.val (.int .i64 0))
   | .map id=>(match s.get id with
     | some (.map es _)=>some (.val (.int .i64 (es.length:Nat)))
     | _=>none)
   | _=>none)
 | some (n+3)=>some (.val (.int .i64 (n:Nat)))
 | none=>d
theorem aKg {s:Sto} {t:TypeId} {v:AV}:aV P s .len [t].toArray [v]=BZ (fY P t) s v (oK P s .len [t].toArray [v]):=by
 have h0:([t].toArray)[0]?=some t:=rfl
 cases h:fY P t with
 | none=>rfl
 | some x=>
   unfold fY at h
   simp only [aV,h0]
   cases hu:P.underlying t with
   | none=>rw [hu]at h;cases h
   | some d=>
     rw [hu]at h
     cases d with
     | string=>simp only [Option.some.injEq]at h;subst h;cases v<;>rfl
     | slice e=>simp only [Option.some.injEq]at h;subst h;cases v<;>rfl
     | map k e=>simp only [Option.some.injEq]at h;subst h;cases v<;>rfl
     | array n e=>
       simp only [Option.some.injEq]at h
       subst h
       rw [show 3+n=n+3 by omega]
       cases v<;>rfl
     | _=>cases h
theorem zV {k:IntKind} {i:Int} {n:Nat} (h0:0<=i) (h1:i<n):qB (.int k i) n=some i.toNat:=by
 obtain ⟨m,rfl⟩:=Int.eq_ofNat_of_zero_le h0
 have:Nat.blt m n=true:=by simp;omega
 show (bif Nat.blt m n then some m else none)=_
 rw [this];rfl
theorem lZ {d n:Nat}:dX none d n=some d:=rfl
theorem lG {k:IntKind} {i:Int} {d n:Nat} (h0:0<=i) (h1:i<=n):dX (some (.int k i)) d n=some i.toNat:=by
 obtain ⟨m,rfl⟩:=Int.eq_ofNat_of_zero_le h0
 have:Nat.ble m n=true:=by simp;omega
 show (bif Nat.ble m n then some m else none)=_
 rw [this];rfl
def SW:=@mJ
def eO:=@bO
def DP (x:Option Nat) (l:List Nat) (v:AV) (d:Option AV):Option AV:=match x with
 | some 0=>(match qB v l.length with
   | some i=>some (.int .u8 ((l.getD i 0:Nat):Int))
   | none=>none)
 | _=>d
theorem aBy {t:TypeId} {l:List Nat} {v:AV}:mJ P t (.str l) v=DP (fY P t) l v (SW P t (.str l) v):=by
 unfold fY
 cases hu:P.underlying t with
 | none=>rfl
 | some d=>
   cases d<;>try rfl
   rotate_left
   ·show _=DP (some (3+_)) l v _
    rw [Nat.add_comm 3]
    rfl
   simp only [mJ,hu,DP]
   cases hi:qB v l.length with
   | none=>rfl
   | some i=>
     simp only
     have:i<l.length:=by
      unfold qB at hi
      split at hi
      ·rename_i j
       cases hb:Nat.blt j l.length with
       | true=>rw [hb]at hi;simp at hi;subst hi;simpa using hb
       | false=>rw [hb]at hi;cases hi
      ·cases hi
     rw [List.getElem?_eq_getElem this]
     simp [List.getD_eq_getElem?_getD,this]
theorem zW {l:List Nat} {k:IntKind} {i:Int} {d:Option AV} (h0:0<=i) (h1:i<l.length):DP (some 0) l (.int k i) d=some (.int .u8 ((l.getD i.toNat 0:Nat):Int)):=by
 simp only [DP,zV h0 h1]
def uM (x:Option Nat) (l:List AV) (v:AV) (d:Option AV):Option AV:=match x with
 | some k=>(match qB v l.length with
   | some i=>(match l[i]? with
     | some a=>bif Nat.beq a.cells.length k then some (.pf a) else none
     | none=>none)
   | none=>none)
 | none=>d
theorem rM {t:TypeId} {l:List AV} {c:Bool} {v:AV}:bO P t (.fz l c) v=uM (qR P t) l v (eO P t (.fz l c) v):=by
 cases h:qR P t with
 | none=>rfl
 | some k=>
   unfold qR at h
   split at h
   ·rename_i e hu
    simp only [bO,hu,h,uM]
    cases qB v l.length<;>rfl
   ·cases h
theorem SX {k:Nat} {l:List AV} {q:IntKind} {i:Int} {d:Option AV} {a:AV} (h0:0<=i) (h1:i<l.length) (ha:l[i.toNat]?=some a) (hk:a.cells.length=k):uM (some k) l (.int q i) d=some (.pf a):=by
 have:Nat.beq a.cells.length k=true:=by rw [hk];exact Nat.beq_refl k
 simp only [uM,zV h0 h1,ha,this,cond_true]
def VZ (x:Option Nat) (id g off len:Nat) (v:AV) (d:Option AV):Option AV:=match x with
 | some k=>(match qB v len with
   | some i=>some (.ptr id g (off+i*k))
   | none=>none)
 | none=>d
theorem CA {t:TypeId} {id g off len:Nat} {c:ACap} {v:AV}:bO P t (.sl id g off len c) v=VZ (qR P t) id g off len v (eO P t (.sl id g off len c) v):=by
 cases h:qR P t with
 | none=>rfl
 | some k=>
   unfold qR at h
   split at h
   ·rename_i e hu
    simp only [bO,hu,h,VZ]
    cases qB v len<;>rfl
   ·cases h
theorem aGy {k id g off len:Nat} {q:IntKind} {i:Int} {d:Option AV} (h0:0<=i) (h1:i<len):VZ (some k) id g off len (.int q i) d=some (.ptr id g (off+i.toNat*k)):=by
 simp only [VZ,zV h0 h1]
def WA (x:Option (Nat × Option Nat)) (id g off:Nat) (v:AV) (d:Option AV):Option AV:=match x with
 | some (n,k)=>(match qB v n with
   | some i=>some (.ptr id g (off+i*gQ k))
   | none=>none)
 | none=>d
theorem zM {t:TypeId} {id g off:Nat} {v:AV}:bO P t (.ptr id g off) v=WA (PT P t) id g off v (eO P t (.ptr id g off) v):=by
 cases h:PT P t with
 | none=>rfl
 | some x=>
   obtain ⟨n,k⟩:=x
   unfold PT at h
   split at h
   ·rename_i m e hu
    cases ht:tyK P e with
    | none=>rw [ht]at h;cases h
    | some y=>
      rw [ht]at h
      simp only [Option.map_some,Option.some.injEq,Prod.mk.injEq]at h
      obtain ⟨rfl,rfl⟩:=h
      obtain ⟨h1,h2⟩:=nO ht
      simp only [bO,hu,h1,WA]
      cases qB v m<;>rfl
   ·cases h
theorem aGz {n id g off:Nat} {k:Option Nat} {q:IntKind} {i:Int} {d:Option AV} (h0:0<=i) (h1:i<n):WA (some (n,k)) id g off (.int q i) d=some (.ptr id g (off+i.toNat*gQ k)):=by
 simp only [WA,zV h0 h1]
def sT:=@eY
def uN (x:Option Nat) (l:List Nat) (lo hi:Option AV) (d:Option AV):Option AV:=match x with
 | some 0=>(match dX hi l.length l.length with
   | some h=>(match dX lo 0 h with
     | some i=>some (.str (bA l i (h-i)))
     | none=>none)
   | none=>none)
 | _=>d
theorem KX {t:TypeId} {l:List Nat} {lo hi:Option AV}:eY P t (.str l) lo hi none=uN (fY P t) l lo hi (sT P t (.str l) lo hi none):=by
 unfold fY
 cases hu:P.underlying t with
 | none=>rfl
 | some d=>
   cases d<;>try rfl
   rotate_left
   ·show _=uN (some (3+_)) l lo hi _
    rw [Nat.add_comm 3]
    rfl
   simp only [eY,hu,uN]
   cases dX hi l.length l.length with
   | none=>rfl
   | some h=>cases dX lo 0 h<;>rfl
theorem WB {l:List Nat} {j k:IntKind} {a b:Int} {d:Option AV} (h0:0<=a) (h1:a<=b) (h2:b<=l.length):uN (some 0) l (some (.int j a)) (some (.int k b)) d=some (.str (bA l a.toNat (b.toNat-a.toNat))):=by
 simp only [uN,lG (show 0<=b by omega) h2,lG h0 (show a<=(b.toNat:Int) by omega)]
theorem HS {l:List Nat} {j:IntKind} {a:Int} {d:Option AV} (h0:0<=a) (h1:a<=l.length):uN (some 0) l (some (.int j a)) none d=some (.str (l.drop a.toNat)):=by
 simp only [uN,lZ,lG h0 h1]
 simp only [bA]
 rw [List.take_of_length_le (by simp)]
theorem aHa {l:List Nat} {k:IntKind} {b:Int} {d:Option AV} (h0:0<=b) (h2:b<=l.length):uN (some 0) l none (some (.int k b)) d=some (.str (l.take b.toNat)):=by
 simp only [uN,lG h0 h2,lZ,bA,List.drop_zero,Nat.sub_zero]
def PI (x:Option Nat) (v:AV) (lo hi mx:Option AV) (d:Option AV):Option AV:=match x with
 | some k=>qC k v lo hi mx
 | none=>d
theorem PJ {t:TypeId} {l:List AV} {c:Bool} {lo hi mx:Option AV}:eY P t (.fz l c) lo hi mx=PI (qR P t) (.fz l c) lo hi mx (sT P t (.fz l c) lo hi mx):=by
 cases h:qR P t with
 | none=>rfl
 | some k=>
   unfold qR at h
   split at h
   ·rename_i e hu;simp only [eY,hu,h,PI]
   ·cases h
theorem KY {t:TypeId} {lo hi mx:Option AV}:eY P t .nils lo hi mx=PI (qR P t) .nils lo hi mx (sT P t .nils lo hi mx):=by
 cases h:qR P t with
 | none=>rfl
 | some k=>
   unfold qR at h
   split at h
   ·rename_i e hu;simp only [eY,hu,h,PI]
   ·cases h
inductive CvK where
 | int (k:IntKind)
 | str
 | bytes
 | ofBytes
def cvK (P:Program) (src dst:TypeId):Option CvK:=match P.underlying src,P.underlying dst with
 | some (.int _),some (.int k)=>some (.int k)
 | some .string,some .string=>some .str
 | some .string,some (.slice e)=>(match P.underlying e with
   | some (.int .u8)=>some .bytes
   | _=>none)
 | some (.slice e),some .string=>(match P.underlying e with
   | some (.int .u8)=>some .ofBytes
   | _=>none)
 | _,_=>none
def aCa:=@iH
def cvC (x:Option CvK) (s:Sto) (v:AV) (d:Option ORes):Option ORes:=match x,v with
 | some (.int k),.int _ n=>some (.val (.int k (k.wrap n)))
 | some .str,.str l=>some (.val (.str l))
 | some .bytes,.str l=>some (.val' (.sl s.n 0 0 l.length (.room 1)) (s.push (ob (eZ l))))
 | some .ofBytes,.str l=>some (.val (.str l))
 | some .ofBytes,v=>(match oS v with
   | some n=>(match dJ s 1 n v with
     | some l=>(match Go.Abs.ofBytes l with
       | some b=>some (.val (.str b))
       | none=>none)
     | none=>none)
   | none=>none)
 | _,_=>d
theorem vX (l:List Nat):(eZ l).all AV.isCell=true:=by simp [eZ,AV.isCell]
theorem aHb {s:Sto} {src dst:TypeId} {v:AV}:iH P s src dst v=cvC (cvK P src dst) s v (aCa P s src dst v):=by
 cases h:cvK P src dst with
 | none=>cases v<;>rfl
 | some x=>
   unfold cvK at h
   split at h
   ·rename_i k0 k h1 h2
    cases h
    cases v<;>first | rfl | (simp only [iH,h1,h2,cvC,eG])
   ·rename_i h1 h2
    cases h
    cases v<;>first | rfl | (simp only [iH,h1,h2,cvC])
   ·rename_i e h1 h2
    split at h
    ·rename_i h3
     cases h
     cases v<;>first | rfl | (simp only [iH,h1,h2,h3,cvC,mX,vX,if_true])
    ·cases h
   ·rename_i e h1 h2
    split at h
    ·rename_i h3
     cases h
     cases v<;>first | rfl | (simp only [iH,h1,h2,h3,oS,cvC];done) | (simp only [iH,h1,h2,h3,oS,cvC];rfl) | (simp only [iH,h1,h2,h3,oS,cvC];generalize dJ s 1 _ _=q;cases q with | none=>rfl | some l=>rfl)
    ·cases h
   ·cases h
end
end Go.Abs
/-
 The abstract machine: what builds and what appends.
-/
namespace Go.Abs
noncomputable section
variable {P:Program} {O:bM}
def dK (place:Nat->Option (Nat × Nat)) (p:Option (Nat × Nat)) (v:AV) (cells:List AV) (rest:List (Nat × AV)):Option (List AV):=match p with
 | none=>none
 | some (off,size)=>bif Nat.beq v.cells.length size&&Nat.ble (off+size) cells.length&&v.cells.all AV.isCell then eI place (cY cells off v.cells) rest else none
theorem PK {place:Nat->Option (Nat × Nat)} {i:Nat} {v:AV} {cells:List AV} {rest:List (Nat × AV)}:eI place cells ((i,v)::rest)=dK place (place i) v cells rest:=by
 simp only [eI,dK]
 cases place i with
 | none=>rfl
 | some p=>
   obtain ⟨off,size⟩:=p
   simp only
   cases h:(Nat.beq v.cells.length size&&Nat.ble (off+size) cells.length&&v.cells.all AV.isCell) with
   | false=>rfl
   | true=>
     simp only [Bool.and_eq_true]at h
     have:=Nat.eq_of_beq_eq_true h.1.1
     simp only [cond_true,cY,this]
theorem WC {place:Nat->Option (Nat × Nat)} {off:Nat} {v:AV} {cells:List AV} {rest:List (Nat × AV)} (hc:v.isCell=true) (hl:off<cells.length):dK place (some (off,1)) v cells rest=eI place (cells.set off v) rest:=by
 have hv:v.cells=[v]:=by cases v<;>first | rfl | cases hc
 have e1:Nat.ble (off+1) cells.length=true:=by simp;omega
 simp only [dK,hv,List.length_cons,List.length_nil,Nat.zero_add,Nat.beq_refl,e1,List.all_cons,hc,List.all_nil,Bool.and_self,cond_true,CK hl]
theorem WD {place:Nat->Option (Nat × Nat)} {off n:Nat} {vs cells:List AV} {rest:List (Nat × AV)} (hn:vs.length=n) (hc:vs.all AV.isCell=true) (hl:off+n<=cells.length):dK place (some (off,n)) (.agg vs) cells rest=eI place (cY cells off vs) rest:=by
 subst hn
 have e1:Nat.ble (off+vs.length) cells.length=true:=by simpa using hl
 simp only [dK,AV.cells,Nat.beq_refl,e1,hc,Bool.and_self,cond_true]
inductive BdK where
 | struct (z:List AV) (ps:List (Nat × Nat))
 | array (z:List AV) (k:Nat)
def pN (P:Program) (t:TypeId):Option BdK:=match bB P t,P.underlying t with
 | some z,some (.struct fields)=>(qA P fields.toList).map fun ps=>.struct z.cells ps
 | some z,some (.array _ elem)=>(qM P elem).map fun k=>.array z.cells k
 | _,_=>none
def SY:=@nS
def bdC (x:Option BdK) (parts:List (Nat × AV)) (d:Option AV):Option AV:=match x with
 | some (.struct z ps)=>(eI (fun i=>ps[i]?) z parts).map .agg
 | some (.array z k)=>(eI (fun i=>some (i*k,k)) z parts).map .agg
 | none=>d
theorem aCc {t:TypeId} {parts:List (Nat × AV)}:nS P t parts=bdC (pN P t) parts (SY P t parts):=by
 cases h:pN P t with
 | none=>rfl
 | some x=>
   unfold pN at h
   split at h
   ·rename_i z fields h1 h2
    cases hp:qA P fields.toList with
    | none=>rw [hp]at h;cases h
    | some ps=>
      rw [hp]at h
      simp only [Option.map_some,Option.some.injEq]at h
      subst h
      simp only [nS,h1,h2,hp,bdC]
      cases eI (fun i=>ps[i]?) z.cells parts<;>rfl
   ·rename_i z n elem h1 h2
    cases hp:qM P elem with
    | none=>rw [hp]at h;cases h
    | some k=>
      rw [hp]at h
      simp only [Option.map_some,Option.some.injEq]at h
      subst h
      simp only [nS,h1,h2,hp,bdC]
      cases eI (fun i=>some (i*k,k)) z.cells parts<;>rfl
   ·cases h
def CB (P:Program) (t:TypeId):Option (Nat × List AV):=match P.underlying t with
 | some (.slice el)=>(match qM P el,bB P el with
   | some k,some z=>bif Nat.beq z.cells.length k&&Nat.blt 0 k then some (k,z.cells) else none
   | _,_=>none)
 | _=>none
def bsF (o:Option (List AV)) (len:Nat) (s:Sto) (K:ORes->Prop):Prop:=∃ cs,o=some cs/\cs.all AV.isCell=true/\K (.val' (.sl s.n 0 0 len (.is len)) (s.push (ob cs)))
@[congr] theorem aLo {o o':Option (List AV)} {len:Nat} {s s':Sto} {K:ORes->Prop} (h:o=o') (h':s=s'):bsF o len s K=bsF o' len s' K:=by rw [h,h']
theorem aCd {cs:List AV} {len:Nat} {s:Sto} {K:ORes->Prop}:bsF (some cs) len s K↔cs.all AV.isCell=true/\K (.val' (.sl s.n 0 0 len (.is len)) (s.push (ob cs))):=by simp [bsF]
def bsC (x:Option (Nat × List AV)) (len:Nat) (parts:List (Nat × AV)) (s:Sto) (K:ORes->Prop) (d:Prop):Prop:=match x with
 | some (k,z)=>len*k<=16777216/\bsF (eI (fun i=>some (i*k,k)) (cS z len) parts) len s K
 | none=>d
def aNo:=@dI
theorem zA {z:List AV}:∀ n:Nat,(cS z n).length=n*z.length
 | 0=>by simp [cS]
 | n+1=>by simp only [cS,List.length_append,zA n,Nat.succ_mul];omega
theorem CC {t:TypeId} {len:Nat} {parts:Array (Nat × Operand)} {e:Env} {K:ORes->Prop}:
 dI P O (.buildSlice t len parts) e K↔bsC (CB P t) len (parts.toList.map fun p=>(p.1,e.eval p.2)) e.s K (aNo P O (.buildSlice t len parts) e K):=by
 cases h:CB P t with
 | none=>exact .rfl
 | some x=>
   obtain ⟨k,z⟩:=x
   unfold CB at h
   split at h
   ·rename_i el hu
    split at h
    ·rename_i k' z' h1 h2
     cases hb:(Nat.beq z'.cells.length k'&&Nat.blt 0 k') with
     | false=>rw [hb]at h;cases h
     | true=>
       rw [hb]at h
       simp only [cond_true,Option.some.injEq,Prod.mk.injEq]at h
       obtain ⟨rfl,rfl⟩:=h
       simp only [Bool.and_eq_true,Nat.blt_eq]at hb
       have hk:=Nat.eq_of_beq_eq_true hb.1
       have hr:∀ call,dW P call (.buildSlice t len parts) e=if len*k'<=16777216 then (match eI (fun i=>some (i*k',k')) (cS z'.cells len) (parts.toList.map fun p=>(p.1,e.eval p.2)) with
        | some cs=>if cs.all AV.isCell=true then some (.val' (.sl e.s.n 0 0 len (.is len)) (e.s.push (ob cs))) else none
        | none=>none) else none:=by
        intro call
        simp only [dW,gF,hu,h1,h2]
        by_cases hle:len*k'<=16777216
        ·have e1:Nat.ble (len*k') (2 ^ 24)=true:=by simpa using hle
         rw [if_pos hle,e1]
         simp only [cond_true]
         have e2:(bif Nat.beq (len*k') 0 then some [] else some (cS z'.cells len))=some (cS z'.cells len):=by
          cases hz:Nat.beq (len*k') 0 with
          | false=>rfl
          | true=>
            have:=Nat.eq_of_beq_eq_true hz
            have hl:len=0:=by
             rcases Nat.mul_eq_zero.1 this with h | h
             ·exact h
             ·omega
            subst hl;rfl
         rw [e2]
         simp only [zA,hk,Nat.beq_refl,cond_true]
         cases eI (fun i=>some (i*k',k')) (cS z'.cells len) (parts.toList.map fun p=>(p.1,e.eval p.2)) with
         | none=>rfl
         | some cs=>
           simp only [mX]
           by_cases hc:cs.all AV.isCell=true
           ·rw [if_pos hc,if_pos hc]
           ·rw [if_neg hc,if_neg hc]
        ·have e1:Nat.ble (len*k') (2 ^ 24)=false:=by
          cases hb2:Nat.ble (len*k') (2 ^ 24) with
          | false=>rfl
          | true=>exact absurd (by simpa using hb2) hle
         rw [if_neg hle,e1];rfl
       rw [nP hr]
       simp only [bsC,bsF,qP]
       by_cases hle:len*k'<=16777216
       ·rw [if_pos hle]
        cases eI (fun i=>some (i*k',k')) (cS z'.cells len) (parts.toList.map fun p=>(p.1,e.eval p.2)) with
        | none=>simp
        | some cs=>
          by_cases hc:cs.all AV.isCell=true
          ·simp only [hc,if_true,Option.some.injEq,exists_eq_left',hle,true_and]
          ·simp only [hc,if_false,Option.some.injEq,exists_eq_left',hle,true_and,false_and,reduceCtorEq,exists_false,Bool.false_eq_true]
       ·rw [if_neg hle];simp [hle]
    ·cases h
   ·cases h
def zX (P:Program) (t u:TypeId):Option (Nat × Nat):=match apK P t,P.underlying u with
 | some x,some (.slice _)=>some x
 | some x,some .string=>some x
 | _,_=>none
def zN (s:Sto) (k:Nat) (y:AV):Option (Nat × List AV):=match oS y with
 | none=>none
 | some n=>(match dJ s k n y with
   | none=>none
   | some new=>bif new.all AV.isCell then some (n,new) else none)
def apF (s:Sto) (k by_:Nat) (x:AV) (y:Option (Nat × List AV)):Option ORes:=match y with
 | none=>none
 | some (n,new)=>(match x with
   | .nils=>bif Nat.beq n 0 then some (.val .nils) else fA s k by_ [] new n
   | .fz xs true=>bif Nat.beq n 0 then some (.val x) else (match dJ s k xs.length x with
     | some old=>fA s k by_ old new (xs.length+n)
     | none=>none)
   | .sl id g off len (.is c)=>bif Nat.ble (len+n) c then
    (match s.get id with
    | some (.cells g' m cs)=>bif Nat.beq g g'&&Nat.ble (off+c*k) m then some (.val' (.sl id g off (len+n) (.is c)) (s.put id (.cells g' m (cs.lay (off+len*k) new)))) else none
    | _=>none)
     else (match dJ s k len x with
      | some old=>fA s k by_ old new (len+n)
      | none=>none)
   | .sl id g off len (.room r)=>(match s.get id with
     | some (.cells g' m cs)=>bif Nat.beq g g'&&Nat.beq k r&&Nat.beq (off+len*k) m&&eJ (len+n) by_ then
      bif Nat.beq off 0 then some (.val' (.sl id (g'+1) 0 (len+n) (.room k)) (s.put id (.cells (g'+1) (m+n*k) (cs.lay m new))))
      else (match cs.row off (len*k) with
      | some old=>some (.val' (.sl id (g'+1) 0 (len+n) (.room k)) (s.put id (.cells (g'+1) ((len+n)*k) (Tr.leaf.lay 0 (old++new)))))
      | none=>none)
       else none
     | _=>none)
   | .sl id g off len (.least r c)=>bif Nat.ble (len+n) c then
    (match s.get id with
    | some (.cells g' m cs)=>bif Nat.beq g g'&&Nat.beq k r&&Nat.ble (off+c*k) m then some (.val' (.sl id g off (len+n) (eX k (len+n) c)) (s.put id (.cells g' m (cs.lay (off+len*k) new)))) else none
    | _=>none)
     else none
   | _=>none)
def apC (x:Option (Nat × Nat)) (s:Sto) (v y:AV) (d:Option ORes):Option ORes:=match x with
 | some (k,by_)=>apF s k by_ v (zN s k y)
 | none=>d
theorem aCe {s:Sto} {t u:TypeId} {x y:AV}:aV P s .append [t,u].toArray [x,y]=apC (zX P t u) s x y (oK P s .append [t,u].toArray [x,y]):=by
 cases h:zX P t u with
 | none=>rfl
 | some q=>
   obtain ⟨k,by_⟩:=q
   have key:∀ d,P.underlying u=some d->(∀ j,d≠.int j)->apK P t=some (k,by_)->aV P s .append [t,u].toArray [x,y]=apF s k by_ x (zN s k y):=by
    intro d hu hd ha
    have h1:aV P s .append [t,u].toArray [x,y]=wX P s t x y:=by
     simp only [aV,hu]
     try (cases d<;>first | rfl | exact absurd rfl (hd _))
    rw [h1]
    unfold apK at ha
    split at ha
    ·rename_i e he
     split at ha
     ·rename_i k' b' z a1 a2 a3
      cases hz:Nat.beq z.cells.length k' with
      | false=>rw [hz]at ha;cases ha
      | true=>
        rw [hz]at ha
        simp only [cond_true,Option.some.injEq,Prod.mk.injEq]at ha
        obtain ⟨rfl,rfl⟩:=ha
        simp only [wX,he,a1,a2,a3,zN]
        cases oS y with
        | none=>rfl
        | some n=>
          simp only
          cases dJ s k' n y with
          | none=>rfl
          | some new=>
            simp only [hz,Bool.true_and]
            cases new.all AV.isCell with
            | false=>rfl
            | true=>
              simp only [cond_true,apF]
              cases x with
              | sl id g off len c=>cases c<;>rfl
              | fz xs c=>cases c<;>rfl
              | _=>rfl
     ·cases ha
    ·cases ha
   unfold zX at h
   split at h
   ·rename_i q e h1 h2;cases h;exact key _ h2 (by simp) h1
   ·rename_i q h1 h2;cases h;exact key _ h2 (by simp) h1
   ·cases h
def apO (o:Option AObj) (g off m:Nat) (n:Nat):Option (Nat × List AV):=match o with
 | some (.cells g' q c)=>bif Nat.beq g g'&&Nat.ble (off+m) q then (match c.row off m with
   | some l=>bif l.all AV.isCell then some (n,l) else none
   | none=>none) else none
 | _=>none
theorem aKh {s:Sto} {k id g off len:Nat} {c:ACap}:zN s k (.sl id g off len c)=apO (s.get id) g off (len*k) len:=by
 have:Nat.ble len len=true:=by simp
 simp only [zN,oS,dJ,this,cond_true,apO]
 cases s.get id with
 | none=>rfl
 | some o=>
   cases o with
   | cells g' q cs=>
     simp only
     cases (Nat.beq g g'&&Nat.ble (off+len*k) q) with
     | false=>rfl
     | true=>
       simp only [cond_true]
       cases cs.row off (len*k)<;>rfl
   | _=>rfl
theorem aHc {g off m n:Nat} {cs:List AV} (h:off+m<=cs.length) (hc:(bA cs off m).all AV.isCell=true):apO (some (aX g cs)) g off m n=some (n,bA cs off m):=by
 have:Nat.ble (off+m) cs.length=true:=by simpa using h
 simp only [apO,aX,Nat.beq_refl,this,Bool.and_self,cond_true,Tr.row_lay _ _ _ h,hc]
theorem CD {cs:List AV} {m:Nat} (h:m=cs.length):bA cs 0 m=cs:=by subst h;simp [bA]
theorem aCf {s:Sto} {k:Nat}:zN s k .nils=some (0,[]):=by simp [zN,oS,dJ]
theorem aHd {s:Sto} {l:List Nat}:zN s 1 (.str l)=some (l.length,eZ l):=by
 have:Nat.ble l.length l.length=true:=by simp
 simp only [zN,oS,dJ,List.take_length,this,Nat.beq_refl,Bool.and_self,cond_true,vX]
theorem WE {s:Sto} {k n:Nat} {l:List AV} {c:Bool} (hn:n<=l.length) (hk:∀ x∈l,x.cells.length=k/\x.cells.all AV.isCell=true):dJ s k n (.fz l c)=some ((l.take n).flatMap AV.cells):=by
 have h1:Nat.ble n l.length=true:=by simpa using hn
 have h2:((l.take n).all fun x=>Nat.beq x.cells.length k)=true:=List.all_eq_true.2 fun x hx=>by
  rw [(hk x (List.mem_of_mem_take hx)).1];exact Nat.beq_refl k
 have h3:((l.take n).flatMap AV.cells).all AV.isCell=true:=List.all_eq_true.2 fun y hy=>by
  obtain ⟨x,hx,hy⟩:=List.mem_flatMap.1 hy
  exact List.all_eq_true.1 (hk x (List.mem_of_mem_take hx)).2 y hy
 simp only [dJ,h1,h2,h3,cond_true,Bool.and_self]
theorem aCg {s:Sto} {k:Nat} {l:List AV} {c:Bool} (hk:∀ x∈l,x.cells.length=k/\x.cells.all AV.isCell=true):zN s k (.fz l c)=some (l.length,l.flatMap AV.cells):=by
 have h3:(l.flatMap AV.cells).all AV.isCell=true:=List.all_eq_true.2 fun y hy=>by
  obtain ⟨x,hx,hy⟩:=List.mem_flatMap.1 hy
  exact List.all_eq_true.1 (hk x hx).2 y hy
 simp only [zN,oS,WE (Nat.le_refl _) hk,List.take_length,h3,cond_true]
theorem sU {n by_:Nat} (h:(2*n+1024)*by_<=281474976710656/\n<4611686018427387904):eJ n by_=true:=by
 simp only [eJ,Bool.and_eq_true,Nat.ble_eq,Nat.blt_eq];exact ⟨by omega,by omega⟩
theorem CE {s:Sto} {k by_ n:Nat} {new:List AV} (hn:n≠0) (hr:(2*n+1024)*by_<=281474976710656/\n<4611686018427387904) (hc:new.all AV.isCell=true):
 apF s k by_ .nils (some (n,new))=some (.val' (.sl s.n 0 0 n (.room k)) (s.push (ob new))):=by
 have h1:Nat.beq n 0=false:=by cases h:Nat.beq n 0 with | false=>rfl | true=>exact absurd (Nat.eq_of_beq_eq_true h) hn
 simp only [apF,h1,cond_false,fA,sU hr,cond_true,List.nil_append,mX,hc,if_true]
theorem xU {s:Sto} {k by_:Nat} {new:List AV}:apF s k by_ .nils (some (0,new))=some (.val .nils):=rfl
def apR (s:Sto) (o:Option AObj) (id g len k by_ n:Nat) (new:List AV):Option ORes:=match o with
 | some (.cells g' m cs)=>bif Nat.beq g g'&&Nat.beq (len*k) m&&eJ (len+n) by_ then some (.val' (.sl id (g'+1) 0 (len+n) (.room k)) (s.put id (.cells (g'+1) (m+n*k) (cs.lay m new)))) else none
 | _=>none
theorem vY {s:Sto} {k by_ id g len n:Nat} {new:List AV}:apF s k by_ (.sl id g 0 len (.room k)) (some (n,new))=apR s (s.get id) id g len k by_ n new:=by
 simp only [apF,apR]
 cases s.get id with
 | none=>rfl
 | some o=>
   cases o with
   | cells g' m cs=>simp only [Nat.beq_refl,Bool.and_true,Nat.zero_add,cond_true]
   | _=>rfl
theorem zY {s:Sto} {id g len k by_ n:Nat} {cs new:List AV} (hl:cs.length=len*k) (hn:new.length=n*k) (hr:(2*(len+n)+1024)*by_<=281474976710656/\len+n<4611686018427387904):
 apR s (some (aX g cs)) id g len k by_ n new=some (.val' (.sl id (g+1) 0 (len+n) (.room k)) (s.put id (aX (g+1) (cs++new)))):=by
 simp only [apR,aX,Nat.beq_refl,hl,sU hr,Bool.and_self,cond_true]
 have:=Tr.lay_append cs new .leaf 0
 rw [Nat.zero_add,hl]at this
 rw [this,List.length_append,hl,hn]
end
end Go.Abs
/-
 The abstract machine: the rules of operations,together;slices that stay as they are.
-/
namespace Go.Abs
noncomputable section
theorem wop:(∀ {P:Program} {s:Sto} {t:TypeId} {id g off:Nat},eH P s t (.ptr id g off)=tyC (tyK P t) (s.get id) g off (HQ P s t (.ptr id g off)))/\(∀ {x:Option Nat} {o:Option AObj} {g off:Nat} {d:Option AV},tyC (some x) o g off d=ldK (some x) o g off)/\
 (∀ {P:Program} {s:Sto} {t:TypeId} {id g off:Nat} {v:AV},kU P s t (.ptr id g off) v=stC (tyK P t) s id g off v (s.get id) (SS P s t (.ptr id g off) v))/\(∀ {x:Option Nat} {s:Sto} {id g off:Nat} {v:AV} {o:Option AObj} {d:Option Sto},stC (some x) s id g off v o d=stK s (some x) id g off v o)/\
 (∀ {P:Program} {s:Sto} {t:TypeId} {v:AV},eH P s t (.pf v)=VX (tyK P t) v (HQ P s t (.pf v)))/\(∀ {v:AV} {d:Option AV},v.isCell=true->VX (some none) v d=some v)/\(∀ {cs:List AV} {k:Nat} {d:Option AV},cs.length=k->VX (some (some k)) (.agg cs) d=some (.agg cs))/\
 (∀ {P:Program} {t:TypeId} {id g o f:Nat},bN P t (.ptr id g o) f=aKe (bC P t f) id g o (mV P t (.ptr id g o) f))/\(∀ {off:Nat} {y:Option Nat} {id g o:Nat} {d:Option AV},aKe (some (off,y)) id g o d=some (.ptr id g (o+off)))/\
 (∀ {P:Program} {t:TypeId} {cs:List AV} {f:Nat},nT P t (.agg cs) f=aKf (bC P t f) cs (SV P t (.agg cs) f))/\(∀ {off:Nat} {y:Option Nat} {cs:List AV} {d:Option AV},aKf (some (off,y)) cs d=ptK y cs off)/\(∀ {cs:List AV} {off:Nat},ptK none cs off=cs[off]?)/\(∀ {cs:List AV} {off n:Nat},off+n<=cs.length->ptK (some n) cs off=some (.agg (bA cs off n)))/\
 (∀ {P:Program} {t:TypeId} {cs:List AV} {f:Nat},bN P t (.pf (.agg cs)) f=pM (bC P t f) cs (mV P t (.pf (.agg cs)) f))/\
 (∀ {P:Program} {s:Sto} {t:TypeId} {v:AV},aV P s .len [t].toArray [v]=BZ (fY P t) s v (oK P s .len [t].toArray [v]))/\(∀ {s:Sto} {l:List Nat} {d:Option ORes},BZ (some 0) s (.str l) d=some (.val (.int .i64 (l.length:Nat))))/\(∀ {s:Sto} {d:Option ORes},BZ (some 1) s .nils d=some (.val (.int .i64 0)))/\
 (∀ {s:Sto} {l:List AV} {c:Bool} {d:Option ORes},BZ (some 1) s (.fz l c) d=some (.val (.int .i64 (l.length:Nat))))/\(∀ {s:Sto} {i g o n:Nat} {c:ACap} {d:Option ORes},BZ (some 1) s (.sl i g o n c) d=some (.val (.int .i64 (n:Nat))))/\
 (∀ {P:Program} {t:TypeId} {l:List Nat} {v:AV},mJ P t (.str l) v=DP (fY P t) l v (SW P t (.str l) v))/\(∀ {l:List Nat} {k:IntKind} {i:Int} {d:Option AV},0<=i->i<l.length->DP (some 0) l (.int k i) d=some (.int .u8 ((l.getD i.toNat 0:Nat):Int)))/\
 (∀ {P:Program} {t:TypeId} {l:List AV} {c:Bool} {v:AV},bO P t (.fz l c) v=uM (qR P t) l v (eO P t (.fz l c) v))/\
 (∀ {P:Program} {t:TypeId} {id g off len:Nat} {c:ACap} {v:AV},bO P t (.sl id g off len c) v=VZ (qR P t) id g off len v (eO P t (.sl id g off len c) v))/\(∀ {k id g off len:Nat} {q:IntKind} {i:Int} {d:Option AV},0<=i->i<len->VZ (some k) id g off len (.int q i) d=some (.ptr id g (off+i.toNat*k)))/\
 (∀ {P:Program} {t:TypeId} {id g off:Nat} {v:AV},bO P t (.ptr id g off) v=WA (PT P t) id g off v (eO P t (.ptr id g off) v))/\(∀ {n id g off:Nat} {k:Option Nat} {q:IntKind} {i:Int} {d:Option AV},0<=i->i<n->WA (some (n,k)) id g off (.int q i) d=some (.ptr id g (off+i.toNat*gQ k)))/\
 (∀ {P:Program} {t:TypeId} {l:List Nat} {lo hi:Option AV},eY P t (.str l) lo hi none=uN (fY P t) l lo hi (sT P t (.str l) lo hi none))/\
 (∀ {l:List Nat} {j k:IntKind} {a b:Int} {d:Option AV},0<=a->a<=b->b<=l.length->uN (some 0) l (some (.int j a)) (some (.int k b)) d=some (.str (bA l a.toNat (b.toNat-a.toNat))))/\
 (∀ {l:List Nat} {j:IntKind} {a:Int} {d:Option AV},0<=a->a<=l.length->uN (some 0) l (some (.int j a)) none d=some (.str (l.drop a.toNat)))/\(∀ {l:List Nat} {k:IntKind} {b:Int} {d:Option AV},0<=b->b<=l.length->uN (some 0) l none (some (.int k b)) d=some (.str (l.take b.toNat)))/\
 (∀ {P:Program} {s:Sto} {src dst:TypeId} {v:AV},iH P s src dst v=cvC (cvK P src dst) s v (aCa P s src dst v))/\(∀ {s:Sto} {k j:IntKind} {n:Int} {d:Option ORes},cvC (some (.int k)) s (.int j n) d=some (.val (.int k (k.wrap n))))/\(∀ {s:Sto} {l:List Nat} {d:Option ORes},cvC (some .str) s (.str l) d=some (.val (.str l)))/\
 (∀ {s:Sto} {l:List Nat} {d:Option ORes},cvC (some .bytes) s (.str l) d=some (.val' (.sl s.n 0 0 l.length (.room 1)) (s.push (ob (eZ l)))))/\
 (∀ {P:Program} {t:TypeId} {parts:List (Nat × AV)},nS P t parts=bdC (pN P t) parts (SY P t parts))/\(∀ {z:List AV} {ps:List (Nat × Nat)} {parts:List (Nat × AV)} {d:Option AV},bdC (some (.struct z ps)) parts d=(eI (fun i=>ps[i]?) z parts).map .agg)/\(∀ {z:List AV} {k:Nat} {parts:List (Nat × AV)} {d:Option AV},bdC (some (.array z k)) parts d=(eI (fun i=>some (i*k,k)) z parts).map .agg)/\
 (∀ {place:Nat->Option (Nat × Nat)} {cells:List AV},eI place cells []=some cells)/\(∀ {place:Nat->Option (Nat × Nat)} {i:Nat} {v:AV} {cells:List AV} {rest:List (Nat × AV)},eI place cells ((i,v)::rest)=dK place (place i) v cells rest)/\
 (∀ {place:Nat->Option (Nat × Nat)} {off:Nat} {v:AV} {cells:List AV} {rest:List (Nat × AV)},v.isCell=true->off<cells.length->dK place (some (off,1)) v cells rest=eI place (cells.set off v) rest)/\
 (∀ {place:Nat->Option (Nat × Nat)} {off n:Nat} {vs cells:List AV} {rest:List (Nat × AV)},vs.length=n->vs.all AV.isCell=true->off+n<=cells.length->dK place (some (off,n)) (.agg vs) cells rest=eI place (cY cells off vs) rest)/\
 (∀ {P:Program} {O:bM} {t:TypeId} {len:Nat} {parts:Array (Nat × Operand)} {e:Env} {K:ORes->Prop},dI P O (.buildSlice t len parts) e K↔bsC (CB P t) len (parts.toList.map fun p=>(p.1,e.eval p.2)) e.s K (aNo P O (.buildSlice t len parts) e K))/\
 (∀ {k:Nat} {z:List AV} {len:Nat} {parts:List (Nat × AV)} {s:Sto} {K:ORes->Prop} {d:Prop},bsC (some (k,z)) len parts s K d=(len*k<=16777216/\bsF (eI (fun i=>some (i*k,k)) (cS z len) parts) len s K))/\
 (∀ {cs:List AV} {len:Nat} {s:Sto} {K:ORes->Prop},bsF (some cs) len s K↔cs.all AV.isCell=true/\K (.val' (.sl s.n 0 0 len (.is len)) (s.push (ob cs))))/\(∀ {z:List AV},cS z 0=[])/\(∀ {z:List AV} {n:Nat},cS z (n+1)=z++cS z n)/\
 (∀ {P:Program} {s:Sto} {t u:TypeId} {x y:AV},aV P s .append [t,u].toArray [x,y]=apC (zX P t u) s x y (oK P s .append [t,u].toArray [x,y]))/\(∀ {k by_:Nat} {s:Sto} {v y:AV} {d:Option ORes},apC (some (k,by_)) s v y d=apF s k by_ v (zN s k y))/\
 (∀ {s:Sto} {k id g off len:Nat} {c:ACap},zN s k (.sl id g off len c)=apO (s.get id) g off (len*k) len)/\(∀ {g off m n:Nat} {cs:List AV},off+m<=cs.length->(bA cs off m).all AV.isCell=true->apO (some (aX g cs)) g off m n=some (n,bA cs off m))/\(∀ {cs:List AV} {m:Nat},m=cs.length->bA cs 0 m=cs)/\
 (∀ {s:Sto} {k:Nat},zN s k .nils=some (0,[]))/\(∀ {s:Sto} {l:List Nat},zN s 1 (.str l)=some (l.length,eZ l))/\
 (∀ {s:Sto} {k by_ n:Nat} {new:List AV},n≠0->((2*n+1024)*by_<=281474976710656/\n<4611686018427387904)->new.all AV.isCell=true->apF s k by_ .nils (some (n,new))=some (.val' (.sl s.n 0 0 n (.room k)) (s.push (ob new))))/\
 (∀ {s:Sto} {k by_ id g len n:Nat} {new:List AV},apF s k by_ (.sl id g 0 len (.room k)) (some (n,new))=apR s (s.get id) id g len k by_ n new)/\
 (∀ {s:Sto} {id g len k by_ n:Nat} {cs new:List AV},cs.length=len*k->new.length=n*k->((2*(len+n)+1024)*by_<=281474976710656/\len+n<4611686018427387904)->apR s (some (aX g cs)) id g len k by_ n new=some (.val' (.sl id (g+1) 0 (len+n) (.room k)) (s.put id (aX (g+1) (cs++new))))):=
 ⟨aGw,rfl,aBu,rfl,VY,ST,SU,HR,rfl,aBv,rfl,rfl,aGx,BY,aKg,rfl,rfl,rfl,rfl,aBy,zW,rM,CA,aGy,zM,aGz,KX,WB,HS,aHa,aHb,rfl,rfl,rfl,
  aCc,rfl,rfl,rfl,PK,WC,WD,CC,rfl,aCd,rfl,rfl,aCe,rfl,aKh,aHc,CD,aCf,aHd,CE,vY,zY⟩
def Sl (a:AV) (xs:List AV):Prop:=(a=.nils/\xs=[]∨∃ c,a=.fz xs c)/\xs.length<=9223372036854775807
theorem Sl.cell {a:AV} {xs:List AV} (h:Sl a xs):a.isCell=true:=by
 rcases h.1 with ⟨rfl,_⟩ | ⟨c,rfl⟩<;>rfl
theorem Sl.len {a:AV} {xs:List AV} (h:Sl a xs) {s:Sto} {d:Option ORes}:BZ (some 1) s a d=some (.val (.int .i64 (xs.length:Nat))):=by
 rcases h.1 with ⟨rfl,rfl⟩ | ⟨c,rfl⟩<;>rfl
theorem Sl.idx {a:AV} {xs:List AV} (h:Sl a xs) {P:Program} {t:TypeId} {v:AV}:bO P t a v=uM (qR P t) xs v (eO P t a v):=by
 rcases h.1 with ⟨rfl,rfl⟩ | ⟨c,rfl⟩
 ·cases hk:qR P t with
  | none=>rfl
  | some k=>
    have h1:uM (some k) [] v (eO P t .nils v)=none:=by
     simp only [uM,List.length_nil]
     cases qB v 0<;>rfl
    rw [h1]
    simp only [bO]
    cases P.underlying t with
    | none=>rfl
    | some d=>cases d<;>rfl
 ·exact rM
theorem nM {n:Nat} {a:AV} {xs:List AV} (h:Sl a xs) (hx:∀ x∈xs,UnderE n x):UnderE n a:=by
 rcases h.1 with ⟨rfl,_⟩ | ⟨c,rfl⟩
 ·exact ⟨1,rfl⟩
 ·exact WH hx
end
end Go.Abs
