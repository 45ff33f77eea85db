/-
  The abstract machine: operations by facts on types that a program's own text gives.
-/
import Derived.Test.YtkocnhkbgcjpbaaGreatEf
set_option linter.unusedVariables false
set_option linter.unusedSimpArgs false
namespace Go.Abs
noncomputable section
variable {P:Program}
def IZ:=@fG
def UY:=@mA
def tyC (x:Option (Option Nat)) (o:Option AObj) (g off:Nat) (d:Option AV):Option AV:=match x with
 | some x=>ldK (some x) o g off
 | none=>d
theorem aJd {s:Sto} {t:TypeId} {id g off:Nat}:fG P s t (.ptr id g off)=tyC (tyK P t) (s.get id) g off (IZ P s t (.ptr id g off)):=by
 cases h:tyK P t with
 | none=>rfl
 | some x=>rw [YJ h];rfl
def stC (x:Option (Option Nat)) (s:Sto) (id g off:Nat) (v:AV) (o:Option AObj) (d:Option Sto):Option Sto:=match x with
 | some x=>stK s (some x) id g off v o
 | none=>d
theorem aDx {s:Sto} {t:TypeId} {id g off:Nat} {v:AV}:mA P s t (.ptr id g off) v=stC (tyK P t) s id g off v (s.get id) (UY P s t (.ptr id g off) v):=by
 cases h:tyK P t with
 | none=>rfl
 | some x=>rw [RT h];rfl
def XV (x:Option (Option Nat)) (v:AV) (d:Option AV):Option AV:=match x with
 | some none=>bif v.isCell then some v else none
 | some (some k)=>(match v with
   | .agg cs=>bif Nat.beq cs.length k then some (.agg cs) else none
   | _=>none)
 | none=>d
theorem XW {s:Sto} {t:TypeId} {v:AV}:fG P s t (.pf v)=XV (tyK P t) v (IZ P s t (.pf v)):=by
 cases h:tyK P t with
 | none=>rfl
 | some x=>
   obtain ⟨h1,h2⟩:=qS h
   cases x with
   | none=>simp only [fG,h1,h2,XV,kR,Option.isSome]
   | some k=>
     simp only [fG,h1,h2,XV,kR,Option.isSome];cases v<;>rfl
theorem UZ {v:AV} {d:Option AV} (h:v.isCell=true):XV (some none) v d=some v:=by simp [XV,h]
theorem VA {cs:List AV} {k:Nat} {d:Option AV} (h:cs.length=k):XV (some (some k)) (.agg cs) d=some (.agg cs):=by simp [XV,h]
def oE:=@bU
def VB:=@pC
def aNc (x:Option (Nat × Option Nat)) (id g o:Nat) (d:Option AV):Option AV:=match x with
 | some (off,_)=>some (.ptr id g (o+off))
 | none=>d
theorem JA {t:TypeId} {id g o f:Nat}:bU P t (.ptr id g o) f=aNc (bJ P t f) id g o (oE P t (.ptr id g o) f):=by
 cases h:bJ P t f with
 | none=>rfl
 | some x=>obtain ⟨off,y⟩:=x;rw [DZ h];rfl
def aNd (x:Option (Nat × Option Nat)) (cs:List AV) (d:Option AV):Option AV:=match x with
 | some (off,y)=>ptK y cs off
 | none=>d
theorem aDy {t:TypeId} {cs:List AV} {f:Nat}:pC P t (.agg cs) f=aNd (bJ P t f) cs (VB P t (.agg cs) f):=by
 cases h:bJ P t f with
 | none=>rfl
 | some x=>obtain ⟨off,y⟩:=x;rw [RV h];rfl
theorem aJe {cs:List AV} {off n:Nat} (h:off+n<=cs.length):ptK (some n) cs off=some (.agg (aW cs off n)):=by
 have:Nat.ble (off+n) cs.length=true:=by simpa using h
 simp [ptK,this]
def qQ (x:Option (Nat × Option Nat)) (cs:List AV) (d:Option AV):Option AV:=match x with
 | some (off,none)=>(match cs[off]? with
   | some v=>bif v.isCell then some (.pf v) else none
   | none=>none)
 | some (off,some n)=>bif Nat.ble (off+n) cs.length then some (.pf (.agg (aW cs off n))) else none
 | none=>d
theorem DR {t:TypeId} {cs:List AV} {f:Nat}:bU P t (.pf (.agg cs)) f=qQ (bJ P t f) cs (oE P t (.pf (.agg cs)) f):=by
 cases h:bJ P t f with
 | none=>rfl
 | some x=>
   obtain ⟨off,y⟩:=x;unfold bJ at h;split at h
   ·rename_i fields hu
    split at h
    ·rename_i fd hfd
     split at h
     ·rename_i z hz
      split at h
      ·cases h
      ·rename_i hne
       simp only [Option.some.injEq,Prod.mk.injEq]at h;obtain ⟨rfl,rfl⟩:=h;obtain ⟨h1,h2⟩:=qS hz
       have:∃ m,kR z=m+1:=by
        cases z with
        | none=>exact ⟨0,rfl⟩
        | some n=>cases n with
          | zero=>exact absurd rfl hne
          | succ m=>exact ⟨m,rfl⟩
       obtain ⟨m,hm⟩:=this;rw [hm]at h1
       cases z with
       | none=>
         have h2':AZ P fd.type=some false:=h2;simp only [bU,hu,hfd,h1,uM,zK hz,ptK,h2',qQ];cases cs[fd.offset]?<;>rfl
       | some n=>
         have h2':AZ P fd.type=some true:=h2;simp only [bU,hu,hfd,h1,uM,zK hz,ptK,h2',qQ];cases Nat.ble (fd.offset+n) cs.length<;>rfl
     ·cases h
    ·cases h
   ·cases h
theorem aDz {off:Nat} {cs:List AV} {d:Option AV} {v:AV} (h:cs[off]?=some v) (hc:v.isCell=true):qQ (some (off,none)) cs d=some (.pf v):=by simp [qQ,h,hc]
theorem aEa {off n:Nat} {cs:List AV} {d:Option AV} (h:off+n<=cs.length):qQ (some (off,some n)) cs d=some (.pf (.agg (aW cs off n))):=by
 have:Nat.ble (off+n) cs.length=true:=by simpa using h
 simp [qQ,this]
def kD (P:Program) (t:TypeId):Option Nat:=match P.underlying t with
 | some .string=>some 0
 | some (.slice _)=>some 1
 | some (.map _ _)=>some 2
 | some (.array n _)=>some (3+n)
 | _=>none
def tZ:=@aX
def AW (x:Option Nat) (s:Sto) (v:AV) (d:Option ORes):Option ORes:=match x with
 | some 0=>(match v with
   | .str l=>some (.val (.int .i64 (l.length:Nat)))
   | _=>none)
 | some 1=>(match v with
   | .str _=>none
   | v=>(match pX v with
     | some n=>some (.val (.int .i64 (n:Nat)))
     | none=>none))
 | some 2=>(match v with
   | .nilm=>some (.val (.int .i64 0))
   | .map id=>(match s.get id with
     | some (.map es _)=>some (.val (.int .i64 (es.length:Nat)))
     | _=>none)
   | _=>none)
 | some (n+3)=>some (.val (.int .i64 (n:Nat)))
 | none=>d
theorem aNe {s:Sto} {t:TypeId} {v:AV}:aX P s .len [t].toArray [v]=AW (kD P t) s v (tZ P s .len [t].toArray [v]):=by
 have h0:([t].toArray)[0]?=some t:=rfl
 cases h:kD P t with
 | none=>rfl
 | some x=>
   unfold kD at h;simp only [aX,h0]
   cases hu:P.underlying t with
   | none=>rw [hu]at h;cases h
   | some d=>
     rw [hu]at h
     cases d with
     | string=>simp only [Option.some.injEq]at h;subst h;cases v<;>rfl
     | slice e=>simp only [Option.some.injEq]at h;subst h;cases v<;>rfl
     | map k e=>simp only [Option.some.injEq]at h;subst h;cases v<;>rfl
     | array n e=>
       simp only [Option.some.injEq]at h;subst h;rw [show 3+n=n+3 by omega];cases v<;>rfl
     | _=>cases h
theorem BT {k:IntKind} {i:Int} {n:Nat} (h0:0<=i) (h1:i<n):rG (.int k i) n=some i.toNat:=by
 obtain ⟨m,rfl⟩:=Int.eq_ofNat_of_zero_le h0
 have:Nat.blt m n=true:=by simp;omega
 show (bif Nat.blt m n then some m else none)=_;rw [this];rfl
theorem pP {d n:Nat}:eR none d n=some d:=rfl
theorem oF {k:IntKind} {i:Int} {d n:Nat} (h0:0<=i) (h1:i<=n):eR (some (.int k i)) d n=some i.toNat:=by
 obtain ⟨m,rfl⟩:=Int.eq_ofNat_of_zero_le h0
 have:Nat.ble m n=true:=by simp;omega
 show (bif Nat.ble m n then some m else none)=_;rw [this];rfl
def VC:=@rH
def fQ:=@bV
def FF (x:Option Nat) (l:List Nat) (v:AV) (d:Option AV):Option AV:=match x with
 | some 0=>(match rG v l.length with
   | some i=>some (.int .u8 ((l.getD i 0:Nat):Int))
   | none=>none)
 | _=>d
theorem aEb {t:TypeId} {l:List Nat} {v:AV}:rH P t (.str l) v=FF (kD P t) l v (VC P t (.str l) v):=by
 unfold kD
 cases hu:P.underlying t with
 | none=>rfl
 | some d=>
   cases d<;>try rfl
   rotate_left
   ·show _=FF (some (3+_)) l v _
    rw [Nat.add_comm 3];rfl
   simp only [rH,hu,FF]
   cases hi:rG v l.length with
   | none=>rfl
   | some i=>
     simp only
     have:i<l.length:=by
      unfold rG at hi;split at hi
      ·rename_i j
       cases hb:Nat.blt j l.length with
       | true=>rw [hb]at hi;simp at hi;subst hi;simpa using hb
       | false=>rw [hb]at hi;cases hi
      ·cases hi
     rw [List.getElem?_eq_getElem this];simp [List.getD_eq_getElem?_getD,this]
theorem BU {l:List Nat} {k:IntKind} {i:Int} {d:Option AV} (h0:0<=i) (h1:i<l.length):FF (some 0) l (.int k i) d=some (.int .u8 ((l.getD i.toNat 0:Nat):Int)):=by
 simp only [FF,BT h0 h1]
def vS (x:Option Nat) (l:List AV) (v:AV) (d:Option AV):Option AV:=match x with
 | some k=>(match rG v l.length with
   | some i=>(match l[i]? with
     | some a=>bif Nat.beq a.cells.length k then some (.pf a) else none
     | none=>none)
   | none=>none)
 | none=>d
theorem tC {t:TypeId} {l:List AV} {c:Bool} {v:AV}:bV P t (.fz l c) v=vS (uR P t) l v (fQ P t (.fz l c) v):=by
 cases h:uR P t with
 | none=>rfl
 | some k=>
   unfold uR at h;split at h
   ·rename_i e hu
    simp only [bV,hu,h,vS];cases rG v l.length<;>rfl
   ·cases h
theorem VD {k:Nat} {l:List AV} {q:IntKind} {i:Int} {d:Option AV} {a:AV} (h0:0<=i) (h1:i<l.length) (ha:l[i.toNat]?=some a) (hk:a.cells.length=k):vS (some k) l (.int q i) d=some (.pf a):=by
 have:Nat.beq a.cells.length k=true:=by rw [hk];exact Nat.beq_refl k
 simp only [vS,BT h0 h1,ha,this,cond_true]
def XX (x:Option Nat) (id g off len:Nat) (v:AV) (d:Option AV):Option AV:=match x with
 | some k=>(match rG v len with
   | some i=>some (.ptr id g (off+i*k))
   | none=>none)
 | none=>d
theorem DS {t:TypeId} {id g off len:Nat} {c:ACap} {v:AV}:bV P t (.sl id g off len c) v=XX (uR P t) id g off len v (fQ P t (.sl id g off len c) v):=by
 cases h:uR P t with
 | none=>rfl
 | some k=>
   unfold uR at h;split at h
   ·rename_i e hu
    simp only [bV,hu,h,XX];cases rG v len<;>rfl
   ·cases h
theorem aJf {k id g off len:Nat} {q:IntKind} {i:Int} {d:Option AV} (h0:0<=i) (h1:i<len):XX (some k) id g off len (.int q i) d=some (.ptr id g (off+i.toNat*k)):=by
 simp only [XX,BT h0 h1]
def XY (x:Option (Nat × Option Nat)) (id g off:Nat) (v:AV) (d:Option AV):Option AV:=match x with
 | some (n,k)=>(match rG v n with
   | some i=>some (.ptr id g (off+i*kR k))
   | none=>none)
 | none=>d
theorem AX {t:TypeId} {id g off:Nat} {v:AV}:bV P t (.ptr id g off) v=XY (VI P t) id g off v (fQ P t (.ptr id g off) v):=by
 cases h:VI P t with
 | none=>rfl
 | some x=>
   obtain ⟨n,k⟩:=x;unfold VI at h;split at h
   ·rename_i m e hu
    cases ht:tyK P e with
    | none=>rw [ht]at h;cases h
    | some y=>
      rw [ht]at h;simp only [Option.map_some,Option.some.injEq,Prod.mk.injEq]at h;obtain ⟨rfl,rfl⟩:=h;obtain ⟨h1,h2⟩:=qS ht;simp only [bV,hu,h1,XY];cases rG v m<;>rfl
   ·cases h
theorem aJg {n id g off:Nat} {k:Option Nat} {q:IntKind} {i:Int} {d:Option AV} (h0:0<=i) (h1:i<n):XY (some (n,k)) id g off (.int q i) d=some (.ptr id g (off+i.toNat*kR k)):=by
 simp only [XY,BT h0 h1]
def uA:=@gS
def vT (x:Option Nat) (l:List Nat) (lo hi:Option AV) (d:Option AV):Option AV:=match x with
 | some 0=>(match eR hi l.length l.length with
   | some h=>(match eR lo 0 h with
     | some i=>some (.str (aW l i (h-i)))
     | none=>none)
   | none=>none)
 | _=>d
theorem MV {t:TypeId} {l:List Nat} {lo hi:Option AV}:gS P t (.str l) lo hi none=vT (kD P t) l lo hi (uA P t (.str l) lo hi none):=by
 unfold kD
 cases hu:P.underlying t with
 | none=>rfl
 | some d=>
   cases d<;>try rfl
   rotate_left
   ·show _=vT (some (3+_)) l lo hi _
    rw [Nat.add_comm 3];rfl
   simp only [gS,hu,vT]
   cases eR hi l.length l.length with
   | none=>rfl
   | some h=>cases eR lo 0 h<;>rfl
theorem XZ {l:List Nat} {j k:IntKind} {a b:Int} {d:Option AV} (h0:0<=a) (h1:a<=b) (h2:b<=l.length):vT (some 0) l (some (.int j a)) (some (.int k b)) d=some (.str (aW l a.toNat (b.toNat-a.toNat))):=by
 simp only [vT,oF (show 0<=b by omega) h2,oF h0 (show a<=(b.toNat:Int) by omega)]
theorem JB {l:List Nat} {j:IntKind} {a:Int} {d:Option AV} (h0:0<=a) (h1:a<=l.length):vT (some 0) l (some (.int j a)) none d=some (.str (l.drop a.toNat)):=by
 simp only [vT,pP,oF h0 h1];simp only [aW];rw [List.take_of_length_le (by simp)]
theorem aJh {l:List Nat} {k:IntKind} {b:Int} {d:Option AV} (h0:0<=b) (h2:b<=l.length):vT (some 0) l none (some (.int k b)) d=some (.str (l.take b.toNat)):=by
 simp only [vT,oF h0 h2,pP,aW,List.drop_zero,Nat.sub_zero]
def aJi (x:Option Nat) (v:AV) (lo hi mx:Option AV) (d:Option AV):Option AV:=match x with
 | some k=>uL k v lo hi mx
 | none=>d
theorem RJ {t:TypeId} {l:List AV} {c:Bool} {lo hi mx:Option AV}:gS P t (.fz l c) lo hi mx=aJi (uR P t) (.fz l c) lo hi mx (uA P t (.fz l c) lo hi mx):=by
 cases h:uR P t with
 | none=>rfl
 | some k=>
   unfold uR at h;split at h
   ·rename_i e hu;simp only [gS,hu,h,aJi]
   ·cases h
theorem MW {t:TypeId} {lo hi mx:Option AV}:gS P t .nils lo hi mx=aJi (uR P t) .nils lo hi mx (uA P t .nils lo hi mx):=by
 cases h:uR P t with
 | none=>rfl
 | some k=>
   unfold uR at h;split at h
   ·rename_i e hu;simp only [gS,hu,h,aJi]
   ·cases h
inductive CvK where
 | int (k:IntKind)
 | str
 | bytes
 | ofBytes
def cvK (P:Program) (src dst:TypeId):Option CvK:=match P.underlying src,P.underlying dst with
 | some (.int _),some (.int k)=>some (.int k)
 | some .string,some .string=>some .str
 | some .string,some (.slice e)=>(match P.underlying e with
   | some (.int .u8)=>some .bytes
   | _=>none)
 | some (.slice e),some .string=>(match P.underlying e with
   | some (.int .u8)=>some .ofBytes
   | _=>none)
 | _,_=>none
def aEc:=@jP
def cvC (x:Option CvK) (s:Sto) (v:AV) (d:Option ORes):Option ORes:=match x,v with
 | some (.int k),.int _ n=>some (.val (.int k (k.wrap n)))
 | some .str,.str l=>some (.val (.str l))
 | some .bytes,.str l=>some (.val' (.sl s.n 0 0 l.length (.room 1)) (s.push (ob (fZ l))))
 | some .ofBytes,.str l=>some (.val (.str l))
 | some .ofBytes,v=>(match pX v with
   | some n=>(match eD s 1 n v with
     | some l=>(match Go.Abs.ofBytes l with
       | some b=>some (.val (.str b))
       | none=>none)
     | none=>none)
   | none=>none)
 | _,_=>d
theorem xP (l:List Nat):(fZ l).all AV.isCell=true:=by simp [fZ,AV.isCell]
theorem aJj {s:Sto} {src dst:TypeId} {v:AV}:jP P s src dst v=cvC (cvK P src dst) s v (aEc P s src dst v):=by
 cases h:cvK P src dst with
 | none=>cases v<;>rfl
 | some x=>
   unfold cvK at h;split at h
   ·rename_i k0 k h1 h2
    cases h
    cases v<;>first | rfl | (simp only [jP,h1,h2,cvC,fF])
   ·rename_i h1 h2
    cases h
    cases v<;>first | rfl | (simp only [jP,h1,h2,cvC])
   ·rename_i e h1 h2
    split at h
    ·rename_i h3
     cases h
     cases v<;>first | rfl | (simp only [jP,h1,h2,h3,cvC,qU,xP,if_true])
    ·cases h
   ·rename_i e h1 h2
    split at h
    ·rename_i h3
     cases h
     cases v<;>first | rfl | (simp only [jP,h1,h2,h3,pX,cvC];done) | (simp only [jP,h1,h2,h3,pX,cvC];rfl) | (simp only [jP,h1,h2,h3,pX,cvC];generalize eD s 1 _ _=q;cases q with | none=>rfl | some l=>rfl)
    ·cases h
   ·cases h
end
end Go.Abs
/-
 The abstract machine: what builds and what appends.
-/
namespace Go.Abs
noncomputable section
variable {P:Program} {O:bZ}
def xQ (place:Nat->Option (Nat × Nat)) (p:Option (Nat × Nat)) (v:AV) (cells:List AV) (rest:List (Nat × AV)):Option (List AV):=match p with
 | none=>none
 | some (off,size)=>bif Nat.beq v.cells.length size&&Nat.ble (off+size) cells.length&&v.cells.all AV.isCell then fH place (cE cells off v.cells) rest else none
theorem RK {place:Nat->Option (Nat × Nat)} {i:Nat} {v:AV} {cells:List AV} {rest:List (Nat × AV)}:fH place cells ((i,v)::rest)=xQ place (place i) v cells rest:=by
 simp only [fH,xQ]
 cases place i with
 | none=>rfl
 | some p=>
   obtain ⟨off,size⟩:=p;simp only
   cases h:(Nat.beq v.cells.length size&&Nat.ble (off+size) cells.length&&v.cells.all AV.isCell) with
   | false=>rfl
   | true=>
     simp only [Bool.and_eq_true]at h;have:=Nat.eq_of_beq_eq_true h.1.1;simp only [cond_true,cE,this]
theorem YA {place:Nat->Option (Nat × Nat)} {off:Nat} {v:AV} {cells:List AV} {rest:List (Nat × AV)} (hc:v.isCell=true) (hl:off<cells.length):xQ place (some (off,1)) v cells rest=fH place (cells.set off v) rest:=by
 have hv:v.cells=[v]:=by cases v<;>first | rfl | cases hc
 have e1:Nat.ble (off+1) cells.length=true:=by simp;omega
 simp only [xQ,hv,List.length_cons,List.length_nil,Nat.zero_add,Nat.beq_refl,e1,List.all_cons,hc,List.all_nil,Bool.and_self,cond_true,DY hl]
theorem YB {place:Nat->Option (Nat × Nat)} {off n:Nat} {vs cells:List AV} {rest:List (Nat × AV)} (hn:vs.length=n) (hc:vs.all AV.isCell=true) (hl:off+n<=cells.length):xQ place (some (off,n)) (.agg vs) cells rest=fH place (cE cells off vs) rest:=by
 subst hn
 have e1:Nat.ble (off+vs.length) cells.length=true:=by simpa using hl
 simp only [xQ,AV.cells,Nat.beq_refl,e1,hc,Bool.and_self,cond_true]
inductive BdK where
 | struct (z:List AV) (ps:List (Nat × Nat))
 | array (z:List AV) (k:Nat)
def rY (P:Program) (t:TypeId):Option BdK:=match bI P t,P.underlying t with
 | some z,some (.struct fields)=>(rF P fields.toList).map fun ps=>.struct z.cells ps
 | some z,some (.array _ elem)=>(rU P elem).map fun k=>.array z.cells k
 | _,_=>none
def VE:=@pB
def bdC (x:Option BdK) (parts:List (Nat × AV)) (d:Option AV):Option AV:=match x with
 | some (.struct z ps)=>(fH (fun i=>ps[i]?) z parts).map .agg
 | some (.array z k)=>(fH (fun i=>some (i*k,k)) z parts).map .agg
 | none=>d
theorem aEe {t:TypeId} {parts:List (Nat × AV)}:pB P t parts=bdC (rY P t) parts (VE P t parts):=by
 cases h:rY P t with
 | none=>rfl
 | some x=>
   unfold rY at h;split at h
   ·rename_i z fields h1 h2
    cases hp:rF P fields.toList with
    | none=>rw [hp]at h;cases h
    | some ps=>
      rw [hp]at h;simp only [Option.map_some,Option.some.injEq]at h;subst h;simp only [pB,h1,h2,hp,bdC];cases fH (fun i=>ps[i]?) z.cells parts<;>rfl
   ·rename_i z n elem h1 h2
    cases hp:rU P elem with
    | none=>rw [hp]at h;cases h
    | some k=>
      rw [hp]at h;simp only [Option.map_some,Option.some.injEq]at h;subst h;simp only [pB,h1,h2,hp,bdC];cases fH (fun i=>some (i*k,k)) z.cells parts<;>rfl
   ·cases h
def GF (P:Program) (t:TypeId):Option (Nat × List AV):=match P.underlying t with
 | some (.slice el)=>(match rU P el,bI P el with
   | some k,some z=>bif Nat.beq z.cells.length k&&Nat.blt 0 k then some (k,z.cells) else none
   | _,_=>none)
 | _=>none
def bsF (o:Option (List AV)) (len:Nat) (s:Sto) (K:ORes->Prop):Prop:=∃ cs,o=some cs/\cs.all AV.isCell=true/\K (.val' (.sl s.n 0 0 len (.is len)) (s.push (ob cs)))
@[congr] theorem aOm {o o':Option (List AV)} {len:Nat} {s s':Sto} {K:ORes->Prop} (h:o=o') (h':s=s'):bsF o len s K=bsF o' len s' K:=by rw [h,h']
theorem aEf {cs:List AV} {len:Nat} {s:Sto} {K:ORes->Prop}:bsF (some cs) len s K↔cs.all AV.isCell=true/\K (.val' (.sl s.n 0 0 len (.is len)) (s.push (ob cs))):=by simp [bsF]
def bsC (x:Option (Nat × List AV)) (len:Nat) (parts:List (Nat × AV)) (s:Sto) (K:ORes->Prop) (d:Prop):Prop:=match x with
 | some (k,z)=>len*k<=16777216/\bsF (fH (fun i=>some (i*k,k)) (eB z len) parts) len s K
 | none=>d
def aQf:=@dZ
theorem AL {z:List AV}:∀ n:Nat,(eB z n).length=n*z.length
 | 0=>by simp [eB]
 | n+1=>by simp only [eB,List.length_append,AL n,Nat.succ_mul];omega
theorem DT {t:TypeId} {len:Nat} {parts:Array (Nat × Operand)} {e:Env} {K:ORes->Prop}:
 dZ P O (.buildSlice t len parts) e K↔bsC (GF P t) len (parts.toList.map fun p=>(p.1,e.eval p.2)) e.s K (aQf P O (.buildSlice t len parts) e K):=by
 cases h:GF P t with
 | none=>exact .rfl
 | some x=>
   obtain ⟨k,z⟩:=x;unfold GF at h;split at h
   ·rename_i el hu
    split at h
    ·rename_i k' z' h1 h2
     cases hb:(Nat.beq z'.cells.length k'&&Nat.blt 0 k') with
     | false=>rw [hb]at h;cases h
     | true=>
       rw [hb]at h;simp only [cond_true,Option.some.injEq,Prod.mk.injEq]at h;obtain ⟨rfl,rfl⟩:=h;simp only [Bool.and_eq_true,Nat.blt_eq]at hb;have hk:=Nat.eq_of_beq_eq_true hb.1
       have hr:∀ call,eQ P call (.buildSlice t len parts) e=if len*k'<=16777216 then (match fH (fun i=>some (i*k',k')) (eB z'.cells len) (parts.toList.map fun p=>(p.1,e.eval p.2)) with
        | some cs=>if cs.all AV.isCell=true then some (.val' (.sl e.s.n 0 0 len (.is len)) (e.s.push (ob cs))) else none
        | none=>none) else none:=by
        intro call;simp only [eQ,iN,hu,h1,h2];by_cases hle:len*k'<=16777216
        ·have e1:Nat.ble (len*k') (2 ^ 24)=true:=by simpa using hle
         rw [if_pos hle,e1];simp only [cond_true]
         have e2:(bif Nat.beq (len*k') 0 then some [] else some (eB z'.cells len))=some (eB z'.cells len):=by
          cases hz:Nat.beq (len*k') 0 with
          | false=>rfl
          | true=>
            have:=Nat.eq_of_beq_eq_true hz
            have hl:len=0:=by
             rcases Nat.mul_eq_zero.1 this with h | h
             ·exact h
             ·omega
            subst hl;rfl
         rw [e2];simp only [AL,hk,Nat.beq_refl,cond_true]
         cases fH (fun i=>some (i*k',k')) (eB z'.cells len) (parts.toList.map fun p=>(p.1,e.eval p.2)) with
         | none=>rfl
         | some cs=>
           simp only [qU];by_cases hc:cs.all AV.isCell=true
           ·rw [if_pos hc,if_pos hc]
           ·rw [if_neg hc,if_neg hc]
        ·have e1:Nat.ble (len*k') (2 ^ 24)=false:=by
          cases hb2:Nat.ble (len*k') (2 ^ 24) with
          | false=>rfl
          | true=>exact absurd (by simpa using hb2) hle
         rw [if_neg hle,e1];rfl
       rw [oY hr];simp only [bsC,bsF,sC];by_cases hle:len*k'<=16777216
       ·rw [if_pos hle]
        cases fH (fun i=>some (i*k',k')) (eB z'.cells len) (parts.toList.map fun p=>(p.1,e.eval p.2)) with
        | none=>simp
        | some cs=>
          by_cases hc:cs.all AV.isCell=true
          ·simp only [hc,if_true,Option.some.injEq,exists_eq_left',hle,true_and]
          ·simp only [hc,if_false,Option.some.injEq,exists_eq_left',hle,true_and,false_and,reduceCtorEq,exists_false,Bool.false_eq_true]
       ·rw [if_neg hle];simp [hle]
    ·cases h
   ·cases h
def GG (P:Program) (t u:TypeId):Option (Nat × Nat):=match apK P t,P.underlying u with
 | some x,some (.slice _)=>some x
 | some x,some .string=>some x
 | _,_=>none
def AY (s:Sto) (k:Nat) (y:AV):Option (Nat × List AV):=match pX y with
 | none=>none
 | some n=>(match eD s k n y with
   | none=>none
   | some new=>bif new.all AV.isCell then some (n,new) else none)
def apF (s:Sto) (k by_:Nat) (x:AV) (y:Option (Nat × List AV)):Option ORes:=match y with
 | none=>none
 | some (n,new)=>(match x with
   | .nils=>bif Nat.beq n 0 then some (.val .nils) else iK s k by_ [] new n
   | .fz xs true=>bif Nat.beq n 0 then some (.val x) else (match eD s k xs.length x with
     | some old=>iK s k by_ old new (xs.length+n)
     | none=>none)
   | .sl id g off len (.is c)=>bif Nat.ble (len+n) c then
    (match s.get id with
    | some (.cells g' m cs)=>bif Nat.beq g g'&&Nat.ble (off+c*k) m then some (.val' (.sl id g off (len+n) (.is c)) (s.put id (.cells g' m (cs.lay (off+len*k) new)))) else none
    | _=>none)
     else (match eD s k len x with
      | some old=>iK s k by_ old new (len+n)
      | none=>none)
   | .sl id g off len (.room r)=>(match s.get id with
     | some (.cells g' m cs)=>bif Nat.beq g g'&&Nat.beq k r&&Nat.beq (off+len*k) m&&fI (len+n) by_ then
      bif Nat.beq off 0 then some (.val' (.sl id (g'+1) 0 (len+n) (.room k)) (s.put id (.cells (g'+1) (m+n*k) (cs.lay m new))))
      else (match cs.row off (len*k) with
      | some old=>some (.val' (.sl id (g'+1) 0 (len+n) (.room k)) (s.put id (.cells (g'+1) ((len+n)*k) (Tr.leaf.lay 0 (old++new)))))
      | none=>none)
       else none
     | _=>none)
   | .sl id g off len (.least r c)=>bif Nat.ble (len+n) c then
    (match s.get id with
    | some (.cells g' m cs)=>bif Nat.beq g g'&&Nat.beq k r&&Nat.ble (off+c*k) m then some (.val' (.sl id g off (len+n) (zR k (len+n) c)) (s.put id (.cells g' m (cs.lay (off+len*k) new)))) else none
    | _=>none)
     else none
   | _=>none)
def apC (x:Option (Nat × Nat)) (s:Sto) (v y:AV) (d:Option ORes):Option ORes:=match x with
 | some (k,by_)=>apF s k by_ v (AY s k y)
 | none=>d
theorem aEg {s:Sto} {t u:TypeId} {x y:AV}:aX P s .append [t,u].toArray [x,y]=apC (GG P t u) s x y (tZ P s .append [t,u].toArray [x,y]):=by
 cases h:GG P t u with
 | none=>rfl
 | some q=>
   obtain ⟨k,by_⟩:=q
   have key:∀ d,P.underlying u=some d->(∀ j,d≠.int j)->apK P t=some (k,by_)->aX P s .append [t,u].toArray [x,y]=apF s k by_ x (AY s k y):=by
    intro d hu hd ha
    have h1:aX P s .append [t,u].toArray [x,y]=yM P s t x y:=by
     simp only [aX,hu]
     try (cases d<;>first | rfl | exact absurd rfl (hd _))
    rw [h1];unfold apK at ha;split at ha
    ·rename_i e he
     split at ha
     ·rename_i k' b' z a1 a2 a3
      cases hz:Nat.beq z.cells.length k' with
      | false=>rw [hz]at ha;cases ha
      | true=>
        rw [hz]at ha;simp only [cond_true,Option.some.injEq,Prod.mk.injEq]at ha;obtain ⟨rfl,rfl⟩:=ha;simp only [yM,he,a1,a2,a3,AY]
        cases pX y with
        | none=>rfl
        | some n=>
          simp only
          cases eD s k' n y with
          | none=>rfl
          | some new=>
            simp only [hz,Bool.true_and]
            cases new.all AV.isCell with
            | false=>rfl
            | true=>
              simp only [cond_true,apF]
              cases x with
              | sl id g off len c=>cases c<;>rfl
              | fz xs c=>cases c<;>rfl
              | _=>rfl
     ·cases ha
    ·cases ha
   unfold GG at h;split at h
   ·rename_i q e h1 h2;cases h;exact key _ h2 (by simp) h1
   ·rename_i q h1 h2;cases h;exact key _ h2 (by simp) h1
   ·cases h
def apO (o:Option AObj) (g off m:Nat) (n:Nat):Option (Nat × List AV):=match o with
 | some (.cells g' q c)=>bif Nat.beq g g'&&Nat.ble (off+m) q then (match c.row off m with
   | some l=>bif l.all AV.isCell then some (n,l) else none
   | none=>none) else none
 | _=>none
theorem aEh {s:Sto} {k id g off len:Nat} {c:ACap}:AY s k (.sl id g off len c)=apO (s.get id) g off (len*k) len:=by
 have:Nat.ble len len=true:=by simp
 simp only [AY,pX,eD,this,cond_true,apO]
 cases s.get id with
 | none=>rfl
 | some o=>
   cases o with
   | cells g' q cs=>
     simp only
     cases (Nat.beq g g'&&Nat.ble (off+len*k) q) with
     | false=>rfl
     | true=>
       simp only [cond_true];cases cs.row off (len*k)<;>rfl
   | _=>rfl
theorem VF {g off m n:Nat} {cs:List AV} (h:off+m<=cs.length) (hc:(aW cs off m).all AV.isCell=true):apO (some (aS g cs)) g off m n=some (n,aW cs off m):=by
 have:Nat.ble (off+m) cs.length=true:=by simpa using h
 simp only [apO,aS,Nat.beq_refl,this,Bool.and_self,cond_true,Tr.row_lay _ _ _ h,hc]
theorem vU {cs:List AV} {m:Nat} (h:m=cs.length):aW cs 0 m=cs:=by subst h;simp [aW]
theorem aEi {s:Sto} {k:Nat}:AY s k .nils=some (0,[]):=by simp [AY,pX,eD]
theorem aJk {s:Sto} {l:List Nat}:AY s 1 (.str l)=some (l.length,fZ l):=by
 have:Nat.ble l.length l.length=true:=by simp
 simp only [AY,pX,eD,List.take_length,this,Nat.beq_refl,Bool.and_self,cond_true,xP]
theorem YC {s:Sto} {k n:Nat} {l:List AV} {c:Bool} (hn:n<=l.length) (hk:∀ x∈l,x.cells.length=k/\x.cells.all AV.isCell=true):eD s k n (.fz l c)=some ((l.take n).flatMap AV.cells):=by
 have h1:Nat.ble n l.length=true:=by simpa using hn
 have h2:((l.take n).all fun x=>Nat.beq x.cells.length k)=true:=List.all_eq_true.2 fun x hx=>by
  rw [(hk x (List.mem_of_mem_take hx)).1];exact Nat.beq_refl k
 have h3:((l.take n).flatMap AV.cells).all AV.isCell=true:=List.all_eq_true.2 fun y hy=>by
  obtain ⟨x,hx,hy⟩:=List.mem_flatMap.1 hy;exact List.all_eq_true.1 (hk x (List.mem_of_mem_take hx)).2 y hy
 simp only [eD,h1,h2,h3,cond_true,Bool.and_self]
theorem JC {s:Sto} {k:Nat} {l:List AV} {c:Bool} (hk:∀ x∈l,x.cells.length=k/\x.cells.all AV.isCell=true):AY s k (.fz l c)=some (l.length,l.flatMap AV.cells):=by
 have h3:(l.flatMap AV.cells).all AV.isCell=true:=List.all_eq_true.2 fun y hy=>by
  obtain ⟨x,hx,hy⟩:=List.mem_flatMap.1 hy;exact List.all_eq_true.1 (hk x hx).2 y hy
 simp only [AY,pX,YC (Nat.le_refl _) hk,List.take_length,h3,cond_true]
theorem zJ {n by_:Nat} (h:(2*n+1024)*by_<=281474976710656/\n<4611686018427387904):fI n by_=true:=by
 simp only [fI,Bool.and_eq_true,Nat.ble_eq,Nat.blt_eq];exact ⟨by omega,by omega⟩
theorem MY {s:Sto} {k by_ n:Nat} {new:List AV} (hn:n≠0) (hr:(2*n+1024)*by_<=281474976710656/\n<4611686018427387904) (hc:new.all AV.isCell=true):
 apF s k by_ .nils (some (n,new))=some (.val' (.sl s.n 0 0 n (.room k)) (s.push (ob new))):=by
 have h1:Nat.beq n 0=false:=by cases h:Nat.beq n 0 with | false=>rfl | true=>exact absurd (Nat.eq_of_beq_eq_true h) hn
 simp only [apF,h1,cond_false,iK,zJ hr,cond_true,List.nil_append,qU,hc,if_true]
theorem YD {s:Sto} {k by_:Nat} {new:List AV}:apF s k by_ .nils (some (0,new))=some (.val .nils):=rfl
def apR (s:Sto) (o:Option AObj) (id g len k by_ n:Nat) (new:List AV):Option ORes:=match o with
 | some (.cells g' m cs)=>bif Nat.beq g g'&&Nat.beq (len*k) m&&fI (len+n) by_ then some (.val' (.sl id (g'+1) 0 (len+n) (.room k)) (s.put id (.cells (g'+1) (m+n*k) (cs.lay m new)))) else none
 | _=>none
theorem aEj {s:Sto} {k by_ id g len n:Nat} {new:List AV}:apF s k by_ (.sl id g 0 len (.room k)) (some (n,new))=apR s (s.get id) id g len k by_ n new:=by
 simp only [apF,apR]
 cases s.get id with
 | none=>rfl
 | some o=>
   cases o with
   | cells g' m cs=>simp only [Nat.beq_refl,Bool.and_true,Nat.zero_add,cond_true]
   | _=>rfl
theorem aJl {s:Sto} {id g len k by_ n:Nat} {cs new:List AV} (hl:cs.length=len*k) (hn:new.length=n*k) (hr:(2*(len+n)+1024)*by_<=281474976710656/\len+n<4611686018427387904):
 apR s (some (aS g cs)) id g len k by_ n new=some (.val' (.sl id (g+1) 0 (len+n) (.room k)) (s.put id (aS (g+1) (cs++new)))):=by
 simp only [apR,aS,Nat.beq_refl,hl,zJ hr,Bool.and_self,cond_true];have:=Tr.lay_append cs new .leaf 0;rw [Nat.zero_add,hl]at this;rw [this,List.length_append,hl,hn]
end
end Go.Abs
/-
 The abstract machine: the rules of operations,together;slices that stay as they are.
-/
namespace Go.Abs
noncomputable section
theorem wop:(∀ {P:Program} {s:Sto} {t:TypeId} {id g off:Nat},fG P s t (.ptr id g off)=tyC (tyK P t) (s.get id) g off (IZ P s t (.ptr id g off)))/\(∀ {x:Option Nat} {o:Option AObj} {g off:Nat} {d:Option AV},tyC (some x) o g off d=ldK (some x) o g off)/\
 (∀ {P:Program} {s:Sto} {t:TypeId} {id g off:Nat} {v:AV},mA P s t (.ptr id g off) v=stC (tyK P t) s id g off v (s.get id) (UY P s t (.ptr id g off) v))/\(∀ {x:Option Nat} {s:Sto} {id g off:Nat} {v:AV} {o:Option AObj} {d:Option Sto},stC (some x) s id g off v o d=stK s (some x) id g off v o)/\
 (∀ {P:Program} {s:Sto} {t:TypeId} {v:AV},fG P s t (.pf v)=XV (tyK P t) v (IZ P s t (.pf v)))/\(∀ {v:AV} {d:Option AV},v.isCell=true->XV (some none) v d=some v)/\(∀ {cs:List AV} {k:Nat} {d:Option AV},cs.length=k->XV (some (some k)) (.agg cs) d=some (.agg cs))/\
 (∀ {P:Program} {t:TypeId} {id g o f:Nat},bU P t (.ptr id g o) f=aNc (bJ P t f) id g o (oE P t (.ptr id g o) f))/\(∀ {off:Nat} {y:Option Nat} {id g o:Nat} {d:Option AV},aNc (some (off,y)) id g o d=some (.ptr id g (o+off)))/\
 (∀ {P:Program} {t:TypeId} {cs:List AV} {f:Nat},pC P t (.agg cs) f=aNd (bJ P t f) cs (VB P t (.agg cs) f))/\(∀ {off:Nat} {y:Option Nat} {cs:List AV} {d:Option AV},aNd (some (off,y)) cs d=ptK y cs off)/\(∀ {cs:List AV} {off:Nat},ptK none cs off=cs[off]?)/\(∀ {cs:List AV} {off n:Nat},off+n<=cs.length->ptK (some n) cs off=some (.agg (aW cs off n)))/\
 (∀ {P:Program} {t:TypeId} {cs:List AV} {f:Nat},bU P t (.pf (.agg cs)) f=qQ (bJ P t f) cs (oE P t (.pf (.agg cs)) f))/\
 (∀ {P:Program} {s:Sto} {t:TypeId} {v:AV},aX P s .len [t].toArray [v]=AW (kD P t) s v (tZ P s .len [t].toArray [v]))/\(∀ {s:Sto} {l:List Nat} {d:Option ORes},AW (some 0) s (.str l) d=some (.val (.int .i64 (l.length:Nat))))/\(∀ {s:Sto} {d:Option ORes},AW (some 1) s .nils d=some (.val (.int .i64 0)))/\
 (∀ {s:Sto} {l:List AV} {c:Bool} {d:Option ORes},AW (some 1) s (.fz l c) d=some (.val (.int .i64 (l.length:Nat))))/\(∀ {s:Sto} {i g o n:Nat} {c:ACap} {d:Option ORes},AW (some 1) s (.sl i g o n c) d=some (.val (.int .i64 (n:Nat))))/\
 (∀ {P:Program} {t:TypeId} {l:List Nat} {v:AV},rH P t (.str l) v=FF (kD P t) l v (VC P t (.str l) v))/\(∀ {l:List Nat} {k:IntKind} {i:Int} {d:Option AV},0<=i->i<l.length->FF (some 0) l (.int k i) d=some (.int .u8 ((l.getD i.toNat 0:Nat):Int)))/\
 (∀ {P:Program} {t:TypeId} {l:List AV} {c:Bool} {v:AV},bV P t (.fz l c) v=vS (uR P t) l v (fQ P t (.fz l c) v))/\
 (∀ {P:Program} {t:TypeId} {id g off len:Nat} {c:ACap} {v:AV},bV P t (.sl id g off len c) v=XX (uR P t) id g off len v (fQ P t (.sl id g off len c) v))/\(∀ {k id g off len:Nat} {q:IntKind} {i:Int} {d:Option AV},0<=i->i<len->XX (some k) id g off len (.int q i) d=some (.ptr id g (off+i.toNat*k)))/\
 (∀ {P:Program} {t:TypeId} {id g off:Nat} {v:AV},bV P t (.ptr id g off) v=XY (VI P t) id g off v (fQ P t (.ptr id g off) v))/\(∀ {n id g off:Nat} {k:Option Nat} {q:IntKind} {i:Int} {d:Option AV},0<=i->i<n->XY (some (n,k)) id g off (.int q i) d=some (.ptr id g (off+i.toNat*kR k)))/\
 (∀ {P:Program} {t:TypeId} {l:List Nat} {lo hi:Option AV},gS P t (.str l) lo hi none=vT (kD P t) l lo hi (uA P t (.str l) lo hi none))/\
 (∀ {l:List Nat} {j k:IntKind} {a b:Int} {d:Option AV},0<=a->a<=b->b<=l.length->vT (some 0) l (some (.int j a)) (some (.int k b)) d=some (.str (aW l a.toNat (b.toNat-a.toNat))))/\
 (∀ {l:List Nat} {j:IntKind} {a:Int} {d:Option AV},0<=a->a<=l.length->vT (some 0) l (some (.int j a)) none d=some (.str (l.drop a.toNat)))/\(∀ {l:List Nat} {k:IntKind} {b:Int} {d:Option AV},0<=b->b<=l.length->vT (some 0) l none (some (.int k b)) d=some (.str (l.take b.toNat)))/\
 (∀ {P:Program} {s:Sto} {src dst:TypeId} {v:AV},jP P s src dst v=cvC (cvK P src dst) s v (aEc P s src dst v))/\(∀ {s:Sto} {k j:IntKind} {n:Int} {d:Option ORes},cvC (some (.int k)) s (.int j n) d=some (.val (.int k (k.wrap n))))/\(∀ {s:Sto} {l:List Nat} {d:Option ORes},cvC (some .str) s (.str l) d=some (.val (.str l)))/\
 (∀ {s:Sto} {l:List Nat} {d:Option ORes},cvC (some .bytes) s (.str l) d=some (.val' (.sl s.n 0 0 l.length (.room 1)) (s.push (ob (fZ l)))))/\
 (∀ {P:Program} {t:TypeId} {parts:List (Nat × AV)},pB P t parts=bdC (rY P t) parts (VE P t parts))/\(∀ {z:List AV} {ps:List (Nat × Nat)} {parts:List (Nat × AV)} {d:Option AV},bdC (some (.struct z ps)) parts d=(fH (fun i=>ps[i]?) z parts).map .agg)/\(∀ {z:List AV} {k:Nat} {parts:List (Nat × AV)} {d:Option AV},bdC (some (.array z k)) parts d=(fH (fun i=>some (i*k,k)) z parts).map .agg)/\
 (∀ {place:Nat->Option (Nat × Nat)} {cells:List AV},fH place cells []=some cells)/\(∀ {place:Nat->Option (Nat × Nat)} {i:Nat} {v:AV} {cells:List AV} {rest:List (Nat × AV)},fH place cells ((i,v)::rest)=xQ place (place i) v cells rest)/\
 (∀ {place:Nat->Option (Nat × Nat)} {off:Nat} {v:AV} {cells:List AV} {rest:List (Nat × AV)},v.isCell=true->off<cells.length->xQ place (some (off,1)) v cells rest=fH place (cells.set off v) rest)/\
 (∀ {place:Nat->Option (Nat × Nat)} {off n:Nat} {vs cells:List AV} {rest:List (Nat × AV)},vs.length=n->vs.all AV.isCell=true->off+n<=cells.length->xQ place (some (off,n)) (.agg vs) cells rest=fH place (cE cells off vs) rest)/\
 (∀ {P:Program} {O:bZ} {t:TypeId} {len:Nat} {parts:Array (Nat × Operand)} {e:Env} {K:ORes->Prop},dZ P O (.buildSlice t len parts) e K↔bsC (GF P t) len (parts.toList.map fun p=>(p.1,e.eval p.2)) e.s K (aQf P O (.buildSlice t len parts) e K))/\
 (∀ {k:Nat} {z:List AV} {len:Nat} {parts:List (Nat × AV)} {s:Sto} {K:ORes->Prop} {d:Prop},bsC (some (k,z)) len parts s K d=(len*k<=16777216/\bsF (fH (fun i=>some (i*k,k)) (eB z len) parts) len s K))/\
 (∀ {cs:List AV} {len:Nat} {s:Sto} {K:ORes->Prop},bsF (some cs) len s K↔cs.all AV.isCell=true/\K (.val' (.sl s.n 0 0 len (.is len)) (s.push (ob cs))))/\(∀ {z:List AV},eB z 0=[])/\(∀ {z:List AV} {n:Nat},eB z (n+1)=z++eB z n)/\
 (∀ {P:Program} {s:Sto} {t u:TypeId} {x y:AV},aX P s .append [t,u].toArray [x,y]=apC (GG P t u) s x y (tZ P s .append [t,u].toArray [x,y]))/\(∀ {k by_:Nat} {s:Sto} {v y:AV} {d:Option ORes},apC (some (k,by_)) s v y d=apF s k by_ v (AY s k y))/\
 (∀ {s:Sto} {k id g off len:Nat} {c:ACap},AY s k (.sl id g off len c)=apO (s.get id) g off (len*k) len)/\(∀ {g off m n:Nat} {cs:List AV},off+m<=cs.length->(aW cs off m).all AV.isCell=true->apO (some (aS g cs)) g off m n=some (n,aW cs off m))/\(∀ {cs:List AV} {m:Nat},m=cs.length->aW cs 0 m=cs)/\
 (∀ {s:Sto} {k:Nat},AY s k .nils=some (0,[]))/\(∀ {s:Sto} {l:List Nat},AY s 1 (.str l)=some (l.length,fZ l))/\
 (∀ {s:Sto} {k by_ n:Nat} {new:List AV},n≠0->((2*n+1024)*by_<=281474976710656/\n<4611686018427387904)->new.all AV.isCell=true->apF s k by_ .nils (some (n,new))=some (.val' (.sl s.n 0 0 n (.room k)) (s.push (ob new))))/\
 (∀ {s:Sto} {k by_ id g len n:Nat} {new:List AV},apF s k by_ (.sl id g 0 len (.room k)) (some (n,new))=apR s (s.get id) id g len k by_ n new)/\
 (∀ {s:Sto} {id g len k by_ n:Nat} {cs new:List AV},cs.length=len*k->new.length=n*k->((2*(len+n)+1024)*by_<=281474976710656/\len+n<4611686018427387904)->apR s (some (aS g cs)) id g len k by_ n new=some (.val' (.sl id (g+1) 0 (len+n) (.room k)) (s.put id (aS (g+1) (cs++new))))):=
 ⟨aJd,rfl,aDx,rfl,XW,UZ,VA,JA,rfl,aDy,rfl,rfl,aJe,DR,aNe,rfl,rfl,rfl,rfl,aEb,BU,tC,DS,aJf,AX,aJg,MV,XZ,JB,aJh,aJj,rfl,rfl,rfl,
  aEe,rfl,rfl,rfl,RK,YA,YB,DT,rfl,aEf,rfl,rfl,aEg,rfl,aEh,VF,vU,aEi,aJk,MY,aEj,aJl⟩
def Sl (a:AV) (xs:List AV):Prop:=(a=.nils/\xs=[]∨∃ c,a=.fz xs c)/\xs.length<=9223372036854775807
theorem Sl.cell {a:AV} {xs:List AV} (h:Sl a xs):a.isCell=true:=by
 rcases h.1 with ⟨rfl,_⟩ | ⟨c,rfl⟩<;>rfl
theorem Sl.len {a:AV} {xs:List AV} (h:Sl a xs) {s:Sto} {d:Option ORes}:AW (some 1) s a d=some (.val (.int .i64 (xs.length:Nat))):=by
 rcases h.1 with ⟨rfl,rfl⟩ | ⟨c,rfl⟩<;>rfl
theorem Sl.idx {a:AV} {xs:List AV} (h:Sl a xs) {P:Program} {t:TypeId} {v:AV}:bV P t a v=vS (uR P t) xs v (fQ P t a v):=by
 rcases h.1 with ⟨rfl,rfl⟩ | ⟨c,rfl⟩
 ·cases hk:uR P t with
  | none=>rfl
  | some k=>
    have h1:vS (some k) [] v (fQ P t .nils v)=none:=by
     simp only [vS,List.length_nil];cases rG v 0<;>rfl
    rw [h1];simp only [bV]
    cases P.underlying t with
    | none=>rfl
    | some d=>cases d<;>rfl
 ·exact tC
theorem bX {n:Nat} {a:AV} {xs:List AV} (h:Sl a xs) (hx:∀ x∈xs,UnderE n x):UnderE n a:=by
 rcases h.1 with ⟨rfl,_⟩ | ⟨c,rfl⟩
 ·exact ⟨1,rfl⟩
 ·exact YF hx
end
end Go.Abs
