/-
  The abstract machine: operations by facts on types that a program's own text gives.
-/
import Derived.Test.YtpmccfnfikkkbaaGreatEf
set_option linter.unusedVariables false
set_option linter.unusedSimpArgs false
namespace Go.Abs
noncomputable section
variable {P:Program}
def JL:=@fD
def WO:=@mB
def tyC (x:Option (Option Nat)) (o:Option AObj) (g off:Nat) (d:Option AV):Option AV:=match x with
 | some x=>ldK (some x) o g off
 | none=>d
theorem aJv {s:Sto} {t:TypeId} {id g off:Nat}:fD P s t (.ptr id g off)=tyC (tyK P t) (s.get id) g off (JL P s t (.ptr id g off)):=by
 cases h:tyK P t with
 | none=>rfl
 | some x=>rw [ZR h];rfl
def stC (x:Option (Option Nat)) (s:Sto) (id g off:Nat) (v:AV) (o:Option AObj) (d:Option Sto):Option Sto:=match x with
 | some x=>stK s (some x) id g off v o
 | none=>d
theorem aDw {s:Sto} {t:TypeId} {id g off:Nat} {v:AV}:mB P s t (.ptr id g off) v=stC (tyK P t) s id g off v (s.get id) (WO P s t (.ptr id g off) v):=by
 cases h:tyK P t with
 | none=>rfl
 | some x=>rw [SR h];rfl
def ZH (x:Option (Option Nat)) (v:AV) (d:Option AV):Option AV:=match x with
 | some none=>bif v.isCell then some v else none
 | some (some k)=>(match v with
   | .agg cs=>bif Nat.beq cs.length k then some (.agg cs) else none
   | _=>none)
 | none=>d
theorem ZI {s:Sto} {t:TypeId} {v:AV}:fD P s t (.pf v)=ZH (tyK P t) v (JL P s t (.pf v)):=by
 cases h:tyK P t with
 | none=>rfl
 | some x=>
   obtain ⟨a,b⟩:=pH h
   cases x with
   | none=>simp only [fD,a,b,ZH,kL,Option.isSome]
   | some k=>
     simp only [fD,a,b,ZH,kL,Option.isSome];cases v<;>rfl
theorem WP {v:AV} {d:Option AV} (h:v.isCell=true):ZH (some none) v d=some v:=by simp [ZH,h]
theorem WQ {cs:List AV} {k:Nat} {d:Option AV} (h:cs.length=k):ZH (some (some k)) (.agg cs) d=some (.agg cs):=by simp [ZH,h]
def oP:=@bS
def WR:=@pM
def aOv (x:Option (Nat × Option Nat)) (id g o:Nat) (d:Option AV):Option AV:=match x with
 | some (off,_)=>some (.ptr id g (o+off))
 | none=>d
theorem JM {t:TypeId} {id g o f:Nat}:bS P t (.ptr id g o) f=aOv (bF P t f) id g o (oP P t (.ptr id g o) f):=by
 cases h:bF P t f with
 | none=>rfl
 | some x=>obtain ⟨off,y⟩:=x;rw [EG h];rfl
def aOw (x:Option (Nat × Option Nat)) (cs:List AV) (d:Option AV):Option AV:=match x with
 | some (off,y)=>ptK y cs off
 | none=>d
theorem aDx {t:TypeId} {cs:List AV} {f:Nat}:pM P t (.agg cs) f=aOw (bF P t f) cs (WR P t (.agg cs) f):=by
 cases h:bF P t f with
 | none=>rfl
 | some x=>obtain ⟨off,y⟩:=x;rw [ST h];rfl
theorem aJw {cs:List AV} {off n:Nat} (h:off+n<=cs.length):ptK (some n) cs off=some (.agg (aM cs off n)):=by
 have:Nat.ble (off+n) cs.length=true:=by simpa using h
 simp [ptK,this]
def qW (x:Option (Nat × Option Nat)) (cs:List AV) (d:Option AV):Option AV:=match x with
 | some (off,none)=>(match cs[off]? with
   | some v=>bif v.isCell then some (.pf v) else none
   | none=>none)
 | some (off,some n)=>bif Nat.ble (off+n) cs.length then some (.pf (.agg (aM cs off n))) else none
 | none=>d
theorem DS {t:TypeId} {cs:List AV} {f:Nat}:bS P t (.pf (.agg cs)) f=qW (bF P t f) cs (oP P t (.pf (.agg cs)) f):=by
 cases h:bF P t f with
 | none=>rfl
 | some x=>
   obtain ⟨off,y⟩:=x;unfold bF at h;split at h
   ·rename_i fields o
    split at h
    ·rename_i c b
     split at h
     ·rename_i z k
      split at h
      ·cases h
      ·rename_i e
       simp only [Option.some.injEq,Prod.mk.injEq]at h;obtain ⟨rfl,rfl⟩:=h;obtain ⟨d,l⟩:=pH k
       have:∃ m,kL z=m+1:=by
        cases z with
        | none=>exact ⟨0,rfl⟩
        | some n=>cases n with
          | zero=>exact absurd rfl e
          | succ m=>exact ⟨m,rfl⟩
       obtain ⟨m,p⟩:=this;rw [p]at d
       cases z with
       | none=>
         have a:BO P c.type=some false:=l;simp only [bS,o,b,d,uW,mZ k,ptK,a,qW];cases cs[c.offset]?<;>rfl
       | some n=>
         have a:BO P c.type=some true:=l;simp only [bS,o,b,d,uW,mZ k,ptK,a,qW];cases Nat.ble (c.offset+n) cs.length<;>rfl
     ·cases h
    ·cases h
   ·cases h
theorem aDy {off:Nat} {cs:List AV} {d:Option AV} {v:AV} (h:cs[off]?=some v) (a:v.isCell=true):qW (some (off,none)) cs d=some (.pf v):=by simp [qW,h,a]
theorem aDz {off n:Nat} {cs:List AV} {d:Option AV} (h:off+n<=cs.length):qW (some (off,some n)) cs d=some (.pf (.agg (aM cs off n))):=by
 have:Nat.ble (off+n) cs.length=true:=by simpa using h
 simp [qW,this]
def gK (P:Program) (t:TypeId):Option Nat:=match P.underlying t with
 | some .string=>some 0
 | some (.slice _)=>some 1
 | some (.map _ _)=>some 2
 | some (.array n _)=>some (3+n)
 | _=>none
def uJ:=@abuiltin
def DT (x:Option Nat) (s:Sto) (v:AV) (d:Option ORes):Option ORes:=match x with
 | some 0=>(match v with
   | .str l=>some (.val (.int .i64 (l.length:Nat)))
   | _=>none)
 | some 1=>(match v with
   | .str _=>none
   | v=>(match oK v with
     | some n=>some (.val (.int .i64 (n:Nat)))
     | none=>none))
 | some 2=>(match v with
   | .nilm=>some (.val (.int .i64 0))
   | .map id=>(match s.get id with
     | some (.map a _)=>some (.val (.int .i64 (a.length:Nat)))
     | _=>none)
   | _=>none)
 | some (n+3)=>some (.val (.int .i64 (n:Nat)))
 | none=>d
theorem aOx {s:Sto} {t:TypeId} {v:AV}:abuiltin P s .len [t].toArray [v]=DT (gK P t) s v (uJ P s .len [t].toArray [v]):=by
 have b:([t].toArray)[0]?=some t:=rfl
 cases h:gK P t with
 | none=>rfl
 | some x=>
   unfold gK at h;simp only [abuiltin,b]
   cases a:P.underlying t with
   | none=>rw [a]at h;cases h
   | some d=>
     rw [a]at h
     cases d with
     | string=>simp only [Option.some.injEq]at h;subst h;cases v<;>rfl
     | slice e=>simp only [Option.some.injEq]at h;subst h;cases v<;>rfl
     | map k e=>simp only [Option.some.injEq]at h;subst h;cases v<;>rfl
     | array n e=>
       simp only [Option.some.injEq]at h;subst h;rw [show 3+n=n+3 by omega];cases v<;>rfl
     | _=>cases h
theorem BY {k:IntKind} {i:Int} {n:Nat} (a:0<=i) (b:i<n):rJ (.int k i) n=some i.toNat:=by
 obtain ⟨m,rfl⟩:=Int.eq_ofNat_of_zero_le a
 have:Nat.blt m n=true:=by simp;omega
 show (bif Nat.blt m n then some m else none)=_;rw [this];rfl
theorem lN {d n:Nat}:eT none d n=some d:=rfl
theorem lG {k:IntKind} {i:Int} {d n:Nat} (a:0<=i) (b:i<=n):eT (some (.int k i)) d n=some i.toNat:=by
 obtain ⟨m,rfl⟩:=Int.eq_ofNat_of_zero_le a
 have:Nat.ble m n=true:=by simp;omega
 show (bif Nat.ble m n then some m else none)=_;rw [this];rfl
def WS:=@rL
def fK:=@bT
def GV (x:Option Nat) (l:List Nat) (v:AV) (d:Option AV):Option AV:=match x with
 | some 0=>(match rJ v l.length with
   | some i=>some (.int .u8 ((l.getD i 0:Nat):Int))
   | none=>none)
 | _=>d
theorem aEa {t:TypeId} {l:List Nat} {v:AV}:rL P t (.str l) v=GV (gK P t) l v (WS P t (.str l) v):=by
 unfold gK
 cases c:P.underlying t with
 | none=>rfl
 | some d=>
   cases d<;>try rfl
   rotate_left
   ·show _=GV (some (3+_)) l v _
    rw [Nat.add_comm 3];rfl
   simp only [rL,c,GV]
   cases a:rJ v l.length with
   | none=>rfl
   | some i=>
     simp only
     have:i<l.length:=by
      unfold rJ at a;split at a
      ·rename_i j
       cases b:Nat.blt j l.length with
       | true=>rw [b]at a;simp at a;subst a;simpa using b
       | false=>rw [b]at a;cases a
      ·cases a
     rw [List.getElem?_eq_getElem this];simp [List.getD_eq_getElem?_getD,this]
theorem BZ {l:List Nat} {k:IntKind} {i:Int} {d:Option AV} (a:0<=i) (b:i<l.length):GV (some 0) l (.int k i) d=some (.int .u8 ((l.getD i.toNat 0:Nat):Int)):=by
 simp only [GV,BY a b]
def dS (x:Option Nat) (l:List AV) (v:AV) (d:Option AV):Option AV:=match x with
 | some k=>(match rJ v l.length with
   | some i=>(match l[i]? with
     | some a=>bif Nat.beq a.cells.length k then some (.pf a) else none
     | none=>none)
   | none=>none)
 | none=>d
theorem sR {t:TypeId} {l:List AV} {c:Bool} {v:AV}:bT P t (.fz l c) v=dS (pG P t) l v (fK P t (.fz l c) v):=by
 cases h:pG P t with
 | none=>rfl
 | some k=>
   unfold pG at h;split at h
   ·rename_i e a
    simp only [bT,a,h,dS];cases rJ v l.length<;>rfl
   ·cases h
theorem uK {k:Nat} {l:List AV} {q:IntKind} {i:Int} {d:Option AV} {a:AV} (b:0<=i) (c:i<l.length) (e:l[i.toNat]?=some a) (f:a.cells.length=k):dS (some k) l (.int q i) d=some (.pf a):=by
 have:Nat.beq a.cells.length k=true:=by rw [f];exact Nat.beq_refl k
 simp only [dS,BY b c,e,this,cond_true]
def ZJ (x:Option Nat) (id g off len:Nat) (v:AV) (d:Option AV):Option AV:=match x with
 | some k=>(match rJ v len with
   | some i=>some (.ptr id g (off+i*k))
   | none=>none)
 | none=>d
theorem DU {t:TypeId} {id g off len:Nat} {c:ACap} {v:AV}:bT P t (.sl id g off len c) v=ZJ (pG P t) id g off len v (fK P t (.sl id g off len c) v):=by
 cases h:pG P t with
 | none=>rfl
 | some k=>
   unfold pG at h;split at h
   ·rename_i e a
    simp only [bT,a,h,ZJ];cases rJ v len<;>rfl
   ·cases h
theorem aJx {k id g off len:Nat} {q:IntKind} {i:Int} {d:Option AV} (a:0<=i) (b:i<len):ZJ (some k) id g off len (.int q i) d=some (.ptr id g (off+i.toNat*k)):=by
 simp only [ZJ,BY a b]
def ZK (x:Option (Nat × Option Nat)) (id g off:Nat) (v:AV) (d:Option AV):Option AV:=match x with
 | some (n,k)=>(match rJ v n with
   | some i=>some (.ptr id g (off+i*kL k))
   | none=>none)
 | none=>d
theorem BN {t:TypeId} {id g off:Nat} {v:AV}:bT P t (.ptr id g off) v=ZK (QY P t) id g off v (fK P t (.ptr id g off) v):=by
 cases h:QY P t with
 | none=>rfl
 | some x=>
   obtain ⟨n,k⟩:=x;unfold QY at h;split at h
   ·rename_i m e c
    cases a:tyK P e with
    | none=>rw [a]at h;cases h
    | some y=>
      rw [a]at h;simp only [Option.map_some,Option.some.injEq,Prod.mk.injEq]at h;obtain ⟨rfl,rfl⟩:=h;obtain ⟨b,d⟩:=pH a;simp only [bT,c,b,ZK];cases rJ v m<;>rfl
   ·cases h
theorem aJy {n id g off:Nat} {k:Option Nat} {q:IntKind} {i:Int} {d:Option AV} (a:0<=i) (b:i<n):ZK (some (n,k)) id g off (.int q i) d=some (.ptr id g (off+i.toNat*kL k)):=by
 simp only [ZK,BY a b]
def qX:=@fF
def vT (x:Option Nat) (l:List Nat) (lo a:Option AV) (d:Option AV):Option AV:=match x with
 | some 0=>(match eT a l.length l.length with
   | some h=>(match eT lo 0 h with
     | some i=>some (.str (aM l i (h-i)))
     | none=>none)
   | none=>none)
 | _=>d
theorem OC {t:TypeId} {l:List Nat} {lo a:Option AV}:fF P t (.str l) lo a none=vT (gK P t) l lo a (qX P t (.str l) lo a none):=by
 unfold gK
 cases b:P.underlying t with
 | none=>rfl
 | some d=>
   cases d<;>try rfl
   rotate_left
   ·show _=vT (some (3+_)) l lo a _
    rw [Nat.add_comm 3];rfl
   simp only [fF,b,vT]
   cases eT a l.length l.length with
   | none=>rfl
   | some h=>cases eT lo 0 h<;>rfl
theorem ZL {l:List Nat} {j k:IntKind} {a b:Int} {d:Option AV} (c:0<=a) (f:a<=b) (e:b<=l.length):vT (some 0) l (some (.int j a)) (some (.int k b)) d=some (.str (aM l a.toNat (b.toNat-a.toNat))):=by
 simp only [vT,lG (show 0<=b by omega) e,lG c (show a<=(b.toNat:Int) by omega)]
theorem JN {l:List Nat} {j:IntKind} {a:Int} {d:Option AV} (b:0<=a) (c:a<=l.length):vT (some 0) l (some (.int j a)) none d=some (.str (l.drop a.toNat)):=by
 simp only [vT,lN,lG b c];simp only [aM];rw [List.take_of_length_le (by simp)]
theorem aJz {l:List Nat} {k:IntKind} {b:Int} {d:Option AV} (a:0<=b) (c:b<=l.length):vT (some 0) l none (some (.int k b)) d=some (.str (l.take b.toNat)):=by
 simp only [vT,lG a c,lN,aM,List.drop_zero,Nat.sub_zero]
def OD (x:Option Nat) (v:AV) (lo a b:Option AV) (d:Option AV):Option AV:=match x with
 | some k=>mQ k v lo a b
 | none=>d
theorem DV {t:TypeId} {id g off len:Nat} {c:ACap} {lo a b:Option AV}:fF P t (.sl id g off len c) lo a b=OD (pG P t) (.sl id g off len c) lo a b (qX P t (.sl id g off len c) lo a b):=by
 cases h:pG P t with
 | none=>rfl
 | some k=>
   unfold pG at h;split at h
   ·rename_i e d;simp only [fF,d,h,OD]
   ·cases h
theorem DW {t:TypeId} {l:List AV} {c:Bool} {lo a b:Option AV}:fF P t (.fz l c) lo a b=OD (pG P t) (.fz l c) lo a b (qX P t (.fz l c) lo a b):=by
 cases h:pG P t with
 | none=>rfl
 | some k=>
   unfold pG at h;split at h
   ·rename_i e d;simp only [fF,d,h,OD]
   ·cases h
theorem AO {t:TypeId} {lo a b:Option AV}:fF P t .nils lo a b=OD (pG P t) .nils lo a b (qX P t .nils lo a b):=by
 cases h:pG P t with
 | none=>rfl
 | some k=>
   unfold pG at h;split at h
   ·rename_i e c;simp only [fF,c,h,OD]
   ·cases h
inductive CvK where
 | int (k:IntKind)
 | str
 | bytes
 | ofBytes
def QX (P:Program) (a dst:TypeId):Option CvK:=match P.underlying a,P.underlying dst with
 | some (.int _),some (.int k)=>some (.int k)
 | some .string,some .string=>some .str
 | some .string,some (.slice e)=>(match P.underlying e with
   | some (.int .u8)=>some .bytes
   | _=>none)
 | some (.slice e),some .string=>(match P.underlying e with
   | some (.int .u8)=>some .ofBytes
   | _=>none)
 | _,_=>none
def aEb:=@jF
def WT (x:Option CvK) (s:Sto) (v:AV) (d:Option ORes):Option ORes:=match x,v with
 | some (.int k),.int _ n=>some (.val (.int k (k.wrap n)))
 | some .str,.str l=>some (.val (.str l))
 | some .bytes,.str l=>some (.val' (.sl s.n 0 0 l.length (.room 1)) (s.push (ob (fP l))))
 | some .ofBytes,.str l=>some (.val (.str l))
 | some .ofBytes,v=>(match oK v with
   | some n=>(match dV s 1 n v with
     | some l=>(match Go.Abs.ofBytes l with
       | some b=>some (.val (.str b))
       | none=>none)
     | none=>none)
   | none=>none)
 | _,_=>d
theorem xI (l:List Nat):(fP l).all AV.isCell=true:=by simp [fP,AV.isCell]
theorem aKa {s:Sto} {c dst:TypeId} {v:AV}:jF P s c dst v=WT (QX P c dst) s v (aEb P s c dst v):=by
 cases h:QX P c dst with
 | none=>cases v<;>rfl
 | some x=>
   unfold QX at h;split at h
   ·rename_i k0 k a b
    cases h
    cases v<;>first | rfl | (simp only [jF,a,b,WT,eO])
   ·rename_i a b
    cases h
    cases v<;>first | rfl | (simp only [jF,a,b,WT])
   ·rename_i e a b
    split at h
    ·rename_i d
     cases h
     cases v<;>first | rfl | (simp only [jF,a,b,d,WT,rA,xI,if_true])
    ·cases h
   ·rename_i e a b
    split at h
    ·rename_i d
     cases h
     cases v<;>first | rfl | (simp only [jF,a,b,d,oK,WT];done) | (simp only [jF,a,b,d,oK,WT];rfl) | (simp only [jF,a,b,d,oK,WT];generalize dV s 1 _ _=q;cases q with | none=>rfl | some l=>rfl)
    ·cases h
   ·cases h
end
end Go.Abs
/-
 The abstract machine: what builds and what appends.
-/
namespace Go.Abs
noncomputable section
variable {P:Program} {O:Orc}
def xJ (a:Nat->Option (Nat × Nat)) (p:Option (Nat × Nat)) (v:AV) (cells:List AV) (rest:List (Nat × AV)):Option (List AV):=match p with
 | none=>none
 | some (off,size)=>bif Nat.beq v.cells.length size&&Nat.ble (off+size) cells.length&&v.cells.all AV.isCell then fE a (cL cells off v.cells) rest else none
theorem SI {a:Nat->Option (Nat × Nat)} {i:Nat} {v:AV} {cells:List AV} {rest:List (Nat × AV)}:fE a cells ((i,v)::rest)=xJ a (a i) v cells rest:=by
 simp only [fE,xJ]
 cases a i with
 | none=>rfl
 | some p=>
   obtain ⟨off,size⟩:=p;simp only
   cases h:(Nat.beq v.cells.length size&&Nat.ble (off+size) cells.length&&v.cells.all AV.isCell) with
   | false=>rfl
   | true=>
     simp only [Bool.and_eq_true]at h;have:=Nat.eq_of_beq_eq_true h.1.1;simp only [cond_true,cL,this]
theorem ZM {a:Nat->Option (Nat × Nat)} {off:Nat} {v:AV} {cells:List AV} {rest:List (Nat × AV)} (b:v.isCell=true) (d:off<cells.length):xJ a (some (off,1)) v cells rest=fE a (cells.set off v) rest:=by
 have e:v.cells=[v]:=by cases v<;>first | rfl | cases b
 have c:Nat.ble (off+1) cells.length=true:=by simp;omega
 simp only [xJ,e,List.length_cons,List.length_nil,Nat.zero_add,Nat.beq_refl,c,List.all_cons,b,List.all_nil,Bool.and_self,cond_true,EF d]
theorem ZN {a:Nat->Option (Nat × Nat)} {off n:Nat} {vs cells:List AV} {rest:List (Nat × AV)} (e:vs.length=n) (c:vs.all AV.isCell=true) (d:off+n<=cells.length):xJ a (some (off,n)) (.agg vs) cells rest=fE a (cL cells off vs) rest:=by
 subst e
 have b:Nat.ble (off+vs.length) cells.length=true:=by simpa using d
 simp only [xJ,AV.cells,Nat.beq_refl,b,c,Bool.and_self,cond_true]
inductive BdK where
 | struct (z:List AV) (ps:List (Nat × Nat))
 | array (z:List AV) (k:Nat)
def oI (P:Program) (t:TypeId):Option BdK:=match bB P t,P.underlying t with
 | some z,some (.struct fields)=>(rI P fields.toList).map fun ps=>.struct z.cells ps
 | some z,some (.array _ a)=>(rX P a).map fun k=>.array z.cells k
 | _,_=>none
def WU:=@pL
def bdC (x:Option BdK) (a:List (Nat × AV)) (d:Option AV):Option AV:=match x with
 | some (.struct z ps)=>(fE (fun i=>ps[i]?) z a).map .agg
 | some (.array z k)=>(fE (fun i=>some (i*k,k)) z a).map .agg
 | none=>d
theorem aEc {t:TypeId} {a:List (Nat × AV)}:pL P t a=bdC (oI P t) a (WU P t a):=by
 cases h:oI P t with
 | none=>rfl
 | some x=>
   unfold oI at h;split at h
   ·rename_i z fields d e
    cases b:rI P fields.toList with
    | none=>rw [b]at h;cases h
    | some ps=>
      rw [b]at h;simp only [Option.map_some,Option.some.injEq]at h;subst h;simp only [pL,d,e,b,bdC];cases fE (fun i=>ps[i]?) z.cells a<;>rfl
   ·rename_i z n c d e
    cases b:rX P c with
    | none=>rw [b]at h;cases h
    | some k=>
      rw [b]at h;simp only [Option.map_some,Option.some.injEq]at h;subst h;simp only [pL,d,e,b,bdC];cases fE (fun i=>some (i*k,k)) z.cells a<;>rfl
   ·cases h
def CA (P:Program) (t:TypeId):Option (Nat × List AV):=match P.underlying t with
 | some (.slice a)=>(match rX P a,bB P a with
   | some k,some z=>bif Nat.beq z.cells.length k&&Nat.blt 0 k then some (k,z.cells) else none
   | _,_=>none)
 | _=>none
def bsF (o:Option (List AV)) (len:Nat) (s:Sto) (K:ORes->Prop):Prop:=∃ cs,o=some cs/\cs.all AV.isCell=true/\K (.val' (.sl s.n 0 0 len (.is len)) (s.push (ob cs)))
@[congr] theorem aRk {o o':Option (List AV)} {len:Nat} {s s':Sto} {K:ORes->Prop} (h:o=o') (h':s=s'):bsF o len s K=bsF o' len s' K:=by rw [h,h']
theorem aEd {cs:List AV} {len:Nat} {s:Sto} {K:ORes->Prop}:bsF (some cs) len s K↔cs.all AV.isCell=true/\K (.val' (.sl s.n 0 0 len (.is len)) (s.push (ob cs))):=by simp [bsF]
def bsC (x:Option (Nat × List AV)) (len:Nat) (a:List (Nat × AV)) (s:Sto) (K:ORes->Prop) (d:Prop):Prop:=match x with
 | some (k,z)=>len*k<=16777216/\bsF (fE (fun i=>some (i*k,k)) (eG z len) a) len s K
 | none=>d
def aSh:=@eI
theorem AP {z:List AV}:∀ n:Nat,(eG z n).length=n*z.length
 | 0=>by simp [eG]
 | n+1=>by simp only [eG,List.length_append,AP n,Nat.succ_mul];omega
theorem DX {t:TypeId} {len:Nat} {a:Array (Nat × Operand)} {e:Env} {K:ORes->Prop}:
 eI P O (.buildSlice t len a) e K↔bsC (CA P t) len (a.toList.map fun p=>(p.1,e.eval p.2)) e.s K (aSh P O (.buildSlice t len a) e K):=by
 cases h:CA P t with
 | none=>exact .rfl
 | some x=>
   obtain ⟨k,z⟩:=x;unfold CA at h;split at h
   ·rename_i C A
    split at h
    ·rename_i c f r u
     cases l:(Nat.beq f.cells.length c&&Nat.blt 0 c) with
     | false=>rw [l]at h;cases h
     | true=>
       rw [l]at h;simp only [cond_true,Option.some.injEq,Prod.mk.injEq]at h;obtain ⟨rfl,rfl⟩:=h;simp only [Bool.and_eq_true,Nat.blt_eq]at l;have v:=Nat.eq_of_beq_eq_true l.1
       have y:∀ call,eX P call (.buildSlice t len a) e=if len*c<=16777216 then (match fE (fun i=>some (i*c,c)) (eG f.cells len) (a.toList.map fun p=>(p.1,e.eval p.2)) with
        | some cs=>if cs.all AV.isCell=true then some (.val' (.sl e.s.n 0 0 len (.is len)) (e.s.push (ob cs))) else none
        | none=>none) else none:=by
        intro call;simp only [eX,iD,A,r,u];by_cases b:len*c<=16777216
        ·have m:Nat.ble (len*c) (2 ^ 24)=true:=by simpa using b
         rw [if_pos b,m];simp only [cond_true]
         have q:(bif Nat.beq (len*c) 0 then some [] else some (eG f.cells len))=some (eG f.cells len):=by
          cases B:Nat.beq (len*c) 0 with
          | false=>rfl
          | true=>
            have:=Nat.eq_of_beq_eq_true B
            have w:len=0:=by
             rcases Nat.mul_eq_zero.1 this with h | h
             ·exact h
             ·omega
            subst w;rfl
         rw [q];simp only [AP,v,Nat.beq_refl,cond_true]
         cases fE (fun i=>some (i*c,c)) (eG f.cells len) (a.toList.map fun p=>(p.1,e.eval p.2)) with
         | none=>rfl
         | some cs=>
           simp only [rA];by_cases d:cs.all AV.isCell=true
           ·rw [if_pos d,if_pos d]
           ·rw [if_neg d,if_neg d]
        ·have m:Nat.ble (len*c) (2 ^ 24)=false:=by
          cases o:Nat.ble (len*c) (2 ^ 24) with
          | false=>rfl
          | true=>exact absurd (by simpa using o) b
         rw [if_neg b,m];rfl
       rw [pI y];simp only [bsC,bsF,sE];by_cases b:len*c<=16777216
       ·rw [if_pos b]
        cases fE (fun i=>some (i*c,c)) (eG f.cells len) (a.toList.map fun p=>(p.1,e.eval p.2)) with
        | none=>simp
        | some cs=>
          by_cases d:cs.all AV.isCell=true
          ·simp only [d,if_true,Option.some.injEq,exists_eq_left',b,true_and]
          ·simp only [d,if_false,Option.some.injEq,exists_eq_left',b,true_and,false_and,reduceCtorEq,exists_false,Bool.false_eq_true]
       ·rw [if_neg b];simp [b]
    ·cases h
   ·cases h
def DY (P:Program) (t u:TypeId):Option (Nat × Nat):=match apK P t,P.underlying u with
 | some x,some (.slice _)=>some x
 | some x,some .string=>some x
 | _,_=>none
def JO (s:Sto) (k:Nat) (y:AV):Option (Nat × List AV):=match oK y with
 | none=>none
 | some n=>(match dV s k n y with
   | none=>none
   | some new=>bif new.all AV.isCell then some (n,new) else none)
def apF (s:Sto) (k by_:Nat) (x:AV) (y:Option (Nat × List AV)):Option ORes:=match y with
 | none=>none
 | some (n,new)=>(match x with
   | .nils=>bif Nat.beq n 0 then some (.val .nils) else gX s k by_ [] new n
   | .fz xs true=>bif Nat.beq n 0 then some (.val x) else (match dV s k xs.length x with
     | some old=>gX s k by_ old new (xs.length+n)
     | none=>none)
   | .sl id g off len (.is c)=>bif Nat.ble (len+n) c then
    (match s.get id with
    | some (.cells g' m cs)=>bif Nat.beq g g'&&Nat.ble (off+c*k) m then some (.val' (.sl id g off (len+n) (.is c)) (s.put id (.cells g' m (cs.lay (off+len*k) new)))) else none
    | _=>none)
     else (match dV s k len x with
      | some old=>gX s k by_ old new (len+n)
      | none=>none)
   | .sl id g off len (.room r)=>(match s.get id with
     | some (.cells g' m cs)=>bif Nat.beq g g'&&Nat.beq k r&&Nat.beq (off+len*k) m&&fG (len+n) by_ then
      bif Nat.beq off 0 then some (.val' (.sl id (g'+1) 0 (len+n) (.room k)) (s.put id (.cells (g'+1) (m+n*k) (cs.lay m new))))
      else (match cs.row off (len*k) with
      | some old=>some (.val' (.sl id (g'+1) 0 (len+n) (.room k)) (s.put id (.cells (g'+1) ((len+n)*k) (Tr.leaf.lay 0 (old++new)))))
      | none=>none)
       else none
     | _=>none)
   | .sl id g off len (.least r c)=>bif Nat.ble (len+n) c then
    (match s.get id with
    | some (.cells g' m cs)=>bif Nat.beq g g'&&Nat.beq k r&&Nat.ble (off+c*k) m then some (.val' (.sl id g off (len+n) (tF k (len+n) c)) (s.put id (.cells g' m (cs.lay (off+len*k) new)))) else none
    | _=>none)
     else none
   | _=>none)
def apC (x:Option (Nat × Nat)) (s:Sto) (v y:AV) (d:Option ORes):Option ORes:=match x with
 | some (k,by_)=>apF s k by_ v (JO s k y)
 | none=>d
theorem aEe {s:Sto} {t u:TypeId} {x y:AV}:abuiltin P s .append [t,u].toArray [x,y]=apC (DY P t u) s x y (uJ P s .append [t,u].toArray [x,y]):=by
 cases h:DY P t u with
 | none=>rfl
 | some q=>
   obtain ⟨k,by_⟩:=q
   have f:∀ d,P.underlying u=some d->(∀ j,d≠.int j)->apK P t=some (k,by_)->abuiltin P s .append [t,u].toArray [x,y]=apF s k by_ x (JO s k y):=by
    intro d v p a
    have b:abuiltin P s .append [t,u].toArray [x,y]=yC P s t x y:=by
     simp only [abuiltin,v]
     try (cases d<;>first | rfl | exact absurd rfl (p _))
    rw [b];unfold apK at a;split at a
    ·rename_i e r
     split at a
     ·rename_i o b' z a1 a2 a3
      cases m:Nat.beq z.cells.length o with
      | false=>rw [m]at a;cases a
      | true=>
        rw [m]at a;simp only [cond_true,Option.some.injEq,Prod.mk.injEq]at a;obtain ⟨rfl,rfl⟩:=a;simp only [yC,r,a1,a2,a3,JO]
        cases oK y with
        | none=>rfl
        | some n=>
          simp only
          cases dV s o n y with
          | none=>rfl
          | some new=>
            simp only [m,Bool.true_and]
            cases new.all AV.isCell with
            | false=>rfl
            | true=>
              simp only [cond_true,apF]
              cases x with
              | sl id g off len c=>cases c<;>rfl
              | fz xs c=>cases c<;>rfl
              | _=>rfl
     ·cases a
    ·cases a
   unfold DY at h;split at h
   ·rename_i q e b l;cases h;exact f _ l (by simp) b
   ·rename_i q b l;cases h;exact f _ l (by simp) b
   ·cases h
def apO (o:Option AObj) (g off m:Nat) (n:Nat):Option (Nat × List AV):=match o with
 | some (.cells g' q c)=>bif Nat.beq g g'&&Nat.ble (off+m) q then (match c.row off m with
   | some l=>bif l.all AV.isCell then some (n,l) else none
   | none=>none) else none
 | _=>none
theorem aOy {s:Sto} {k id g off len:Nat} {c:ACap}:JO s k (.sl id g off len c)=apO (s.get id) g off (len*k) len:=by
 have:Nat.ble len len=true:=by simp
 simp only [JO,oK,dV,this,cond_true,apO]
 cases s.get id with
 | none=>rfl
 | some o=>
   cases o with
   | cells g' q cs=>
     simp only
     cases (Nat.beq g g'&&Nat.ble (off+len*k) q) with
     | false=>rfl
     | true=>
       simp only [cond_true];cases cs.row off (len*k)<;>rfl
   | _=>rfl
theorem aKb {g off m n:Nat} {cs:List AV} (h:off+m<=cs.length) (a:(aM cs off m).all AV.isCell=true):apO (some (aW g cs)) g off m n=some (n,aM cs off m):=by
 have:Nat.ble (off+m) cs.length=true:=by simpa using h
 simp only [apO,aW,Nat.beq_refl,this,Bool.and_self,cond_true,Tr.row_lay _ _ _ h,a]
theorem kW {cs:List AV} {m:Nat} (h:m=cs.length):aM cs 0 m=cs:=by subst h;simp [aM]
theorem aEf {s:Sto} {k:Nat}:JO s k .nils=some (0,[]):=by simp [JO,oK,dV]
theorem aKc {s:Sto} {l:List Nat}:JO s 1 (.str l)=some (l.length,fP l):=by
 have:Nat.ble l.length l.length=true:=by simp
 simp only [JO,oK,dV,List.take_length,this,Nat.beq_refl,Bool.and_self,cond_true,xI]
theorem ZO {s:Sto} {k n:Nat} {l:List AV} {c:Bool} (m:n<=l.length) (d:∀ x∈l,x.cells.length=k/\x.cells.all AV.isCell=true):dV s k n (.fz l c)=some ((l.take n).flatMap AV.cells):=by
 have e:Nat.ble n l.length=true:=by simpa using m
 have f:((l.take n).all fun x=>Nat.beq x.cells.length k)=true:=List.all_eq_true.2 fun x a=>by
  rw [(d x (List.mem_of_mem_take a)).1];exact Nat.beq_refl k
 have h:((l.take n).flatMap AV.cells).all AV.isCell=true:=List.all_eq_true.2 fun y b=>by
  obtain ⟨x,a,b⟩:=List.mem_flatMap.1 b;exact List.all_eq_true.1 (d x (List.mem_of_mem_take a)).2 y b
 simp only [dV,e,f,h,cond_true,Bool.and_self]
theorem SJ {s:Sto} {k:Nat} {l:List AV} {c:Bool} (b:∀ x∈l,x.cells.length=k/\x.cells.all AV.isCell=true):JO s k (.fz l c)=some (l.length,l.flatMap AV.cells):=by
 have d:(l.flatMap AV.cells).all AV.isCell=true:=List.all_eq_true.2 fun y a=>by
  obtain ⟨x,e,a⟩:=List.mem_flatMap.1 a;exact List.all_eq_true.1 (b x e).2 y a
 simp only [JO,oK,ZO (Nat.le_refl _) b,List.take_length,d,cond_true]
theorem zL {n by_:Nat} (h:(2*n+1024)*by_<=281474976710656/\n<4611686018427387904):fG n by_=true:=by
 simp only [fG,Bool.and_eq_true,Nat.ble_eq,Nat.blt_eq];exact ⟨by omega,by omega⟩
theorem aEg {s:Sto} {k by_ n:Nat} {new:List AV} (c:n≠0) (d:(2*n+1024)*by_<=281474976710656/\n<4611686018427387904) (b:new.all AV.isCell=true):
 apF s k by_ .nils (some (n,new))=some (.val' (.sl s.n 0 0 n (.room k)) (s.push (ob new))):=by
 have a:Nat.beq n 0=false:=by cases h:Nat.beq n 0 with | false=>rfl | true=>exact absurd (Nat.eq_of_beq_eq_true h) c
 simp only [apF,a,cond_false,gX,zL d,cond_true,List.nil_append,rA,b,if_true]
def apR (s:Sto) (o:Option AObj) (id g len k by_ n:Nat) (new:List AV):Option ORes:=match o with
 | some (.cells g' m cs)=>bif Nat.beq g g'&&Nat.beq (len*k) m&&fG (len+n) by_ then some (.val' (.sl id (g'+1) 0 (len+n) (.room k)) (s.put id (.cells (g'+1) (m+n*k) (cs.lay m new)))) else none
 | _=>none
theorem aEh {s:Sto} {k by_ id g len n:Nat} {new:List AV}:apF s k by_ (.sl id g 0 len (.room k)) (some (n,new))=apR s (s.get id) id g len k by_ n new:=by
 simp only [apF,apR]
 cases s.get id with
 | none=>rfl
 | some o=>
   cases o with
   | cells g' m cs=>simp only [Nat.beq_refl,Bool.and_true,Nat.zero_add,cond_true]
   | _=>rfl
theorem aKd {s:Sto} {id g len k by_ n:Nat} {cs new:List AV} (a:cs.length=len*k) (b:new.length=n*k) (c:(2*(len+n)+1024)*by_<=281474976710656/\len+n<4611686018427387904):
 apR s (some (aW g cs)) id g len k by_ n new=some (.val' (.sl id (g+1) 0 (len+n) (.room k)) (s.put id (aW (g+1) (cs++new)))):=by
 simp only [apR,aW,Nat.beq_refl,a,zL c,Bool.and_self,cond_true];have:=Tr.lay_append cs new .leaf 0;rw [Nat.zero_add,a]at this;rw [this,List.length_append,a,b]
end
end Go.Abs
/-
 The abstract machine: the rules of operations,together;slices that stay as they are.
-/
namespace Go.Abs
noncomputable section
theorem wop:(∀ {P:Program} {s:Sto} {t:TypeId} {id g off:Nat},fD P s t (.ptr id g off)=tyC (tyK P t) (s.get id) g off (JL P s t (.ptr id g off)))/\(∀ {x:Option Nat} {o:Option AObj} {g off:Nat} {d:Option AV},tyC (some x) o g off d=ldK (some x) o g off)/\
 (∀ {P:Program} {s:Sto} {t:TypeId} {id g off:Nat} {v:AV},mB P s t (.ptr id g off) v=stC (tyK P t) s id g off v (s.get id) (WO P s t (.ptr id g off) v))/\(∀ {x:Option Nat} {s:Sto} {id g off:Nat} {v:AV} {o:Option AObj} {d:Option Sto},stC (some x) s id g off v o d=stK s (some x) id g off v o)/\
 (∀ {P:Program} {s:Sto} {t:TypeId} {v:AV},fD P s t (.pf v)=ZH (tyK P t) v (JL P s t (.pf v)))/\(∀ {v:AV} {d:Option AV},v.isCell=true->ZH (some none) v d=some v)/\(∀ {cs:List AV} {k:Nat} {d:Option AV},cs.length=k->ZH (some (some k)) (.agg cs) d=some (.agg cs))/\
 (∀ {P:Program} {t:TypeId} {id g o f:Nat},bS P t (.ptr id g o) f=aOv (bF P t f) id g o (oP P t (.ptr id g o) f))/\(∀ {off:Nat} {y:Option Nat} {id g o:Nat} {d:Option AV},aOv (some (off,y)) id g o d=some (.ptr id g (o+off)))/\
 (∀ {P:Program} {t:TypeId} {cs:List AV} {f:Nat},pM P t (.agg cs) f=aOw (bF P t f) cs (WR P t (.agg cs) f))/\(∀ {off:Nat} {y:Option Nat} {cs:List AV} {d:Option AV},aOw (some (off,y)) cs d=ptK y cs off)/\(∀ {cs:List AV} {off:Nat},ptK none cs off=cs[off]?)/\(∀ {cs:List AV} {off n:Nat},off+n<=cs.length->ptK (some n) cs off=some (.agg (aM cs off n)))/\
 (∀ {P:Program} {t:TypeId} {cs:List AV} {f:Nat},bS P t (.pf (.agg cs)) f=qW (bF P t f) cs (oP P t (.pf (.agg cs)) f))/\
 (∀ {P:Program} {s:Sto} {t:TypeId} {v:AV},abuiltin P s .len [t].toArray [v]=DT (gK P t) s v (uJ P s .len [t].toArray [v]))/\(∀ {s:Sto} {l:List Nat} {d:Option ORes},DT (some 0) s (.str l) d=some (.val (.int .i64 (l.length:Nat))))/\(∀ {s:Sto} {d:Option ORes},DT (some 1) s .nils d=some (.val (.int .i64 0)))/\
 (∀ {s:Sto} {l:List AV} {c:Bool} {d:Option ORes},DT (some 1) s (.fz l c) d=some (.val (.int .i64 (l.length:Nat))))/\(∀ {s:Sto} {i g o n:Nat} {c:ACap} {d:Option ORes},DT (some 1) s (.sl i g o n c) d=some (.val (.int .i64 (n:Nat))))/\
 (∀ {P:Program} {t:TypeId} {l:List Nat} {v:AV},rL P t (.str l) v=GV (gK P t) l v (WS P t (.str l) v))/\(∀ {l:List Nat} {k:IntKind} {i:Int} {d:Option AV},0<=i->i<l.length->GV (some 0) l (.int k i) d=some (.int .u8 ((l.getD i.toNat 0:Nat):Int)))/\
 (∀ {P:Program} {t:TypeId} {l:List AV} {c:Bool} {v:AV},bT P t (.fz l c) v=dS (pG P t) l v (fK P t (.fz l c) v))/\
 (∀ {P:Program} {t:TypeId} {id g off len:Nat} {c:ACap} {v:AV},bT P t (.sl id g off len c) v=ZJ (pG P t) id g off len v (fK P t (.sl id g off len c) v))/\(∀ {k id g off len:Nat} {q:IntKind} {i:Int} {d:Option AV},0<=i->i<len->ZJ (some k) id g off len (.int q i) d=some (.ptr id g (off+i.toNat*k)))/\
 (∀ {P:Program} {t:TypeId} {id g off:Nat} {v:AV},bT P t (.ptr id g off) v=ZK (QY P t) id g off v (fK P t (.ptr id g off) v))/\(∀ {n id g off:Nat} {k:Option Nat} {q:IntKind} {i:Int} {d:Option AV},0<=i->i<n->ZK (some (n,k)) id g off (.int q i) d=some (.ptr id g (off+i.toNat*kL k)))/\
 (∀ {P:Program} {t:TypeId} {l:List Nat} {lo A:Option AV},fF P t (.str l) lo A none=vT (gK P t) l lo A (qX P t (.str l) lo A none))/\
 (∀ {l:List Nat} {j k:IntKind} {a b:Int} {d:Option AV},0<=a->a<=b->b<=l.length->vT (some 0) l (some (.int j a)) (some (.int k b)) d=some (.str (aM l a.toNat (b.toNat-a.toNat))))/\
 (∀ {l:List Nat} {j:IntKind} {a:Int} {d:Option AV},0<=a->a<=l.length->vT (some 0) l (some (.int j a)) none d=some (.str (l.drop a.toNat)))/\(∀ {l:List Nat} {k:IntKind} {b:Int} {d:Option AV},0<=b->b<=l.length->vT (some 0) l none (some (.int k b)) d=some (.str (l.take b.toNat)))/\
 (∀ {P:Program} {s:Sto} {w dst:TypeId} {v:AV},jF P s w dst v=WT (QX P w dst) s v (aEb P s w dst v))/\(∀ {s:Sto} {k j:IntKind} {n:Int} {d:Option ORes},WT (some (.int k)) s (.int j n) d=some (.val (.int k (k.wrap n))))/\(∀ {s:Sto} {l:List Nat} {d:Option ORes},WT (some .str) s (.str l) d=some (.val (.str l)))/\
 (∀ {s:Sto} {l:List Nat} {d:Option ORes},WT (some .bytes) s (.str l) d=some (.val' (.sl s.n 0 0 l.length (.room 1)) (s.push (ob (fP l)))))/\
 (∀ {P:Program} {t:TypeId} {h:List (Nat × AV)},pL P t h=bdC (oI P t) h (WU P t h))/\(∀ {z:List AV} {ps:List (Nat × Nat)} {h:List (Nat × AV)} {d:Option AV},bdC (some (.struct z ps)) h d=(fE (fun i=>ps[i]?) z h).map .agg)/\(∀ {z:List AV} {k:Nat} {h:List (Nat × AV)} {d:Option AV},bdC (some (.array z k)) h d=(fE (fun i=>some (i*k,k)) z h).map .agg)/\
 (∀ {r:Nat->Option (Nat × Nat)} {cells:List AV},fE r cells []=some cells)/\(∀ {r:Nat->Option (Nat × Nat)} {i:Nat} {v:AV} {cells:List AV} {rest:List (Nat × AV)},fE r cells ((i,v)::rest)=xJ r (r i) v cells rest)/\
 (∀ {r:Nat->Option (Nat × Nat)} {off:Nat} {v:AV} {cells:List AV} {rest:List (Nat × AV)},v.isCell=true->off<cells.length->xJ r (some (off,1)) v cells rest=fE r (cells.set off v) rest)/\
 (∀ {r:Nat->Option (Nat × Nat)} {off n:Nat} {vs cells:List AV} {rest:List (Nat × AV)},vs.length=n->vs.all AV.isCell=true->off+n<=cells.length->xJ r (some (off,n)) (.agg vs) cells rest=fE r (cL cells off vs) rest)/\
 (∀ {P:Program} {O:Orc} {t:TypeId} {len:Nat} {h:Array (Nat × Operand)} {e:Env} {K:ORes->Prop},eI P O (.buildSlice t len h) e K↔bsC (CA P t) len (h.toList.map fun p=>(p.1,e.eval p.2)) e.s K (aSh P O (.buildSlice t len h) e K))/\
 (∀ {k:Nat} {z:List AV} {len:Nat} {h:List (Nat × AV)} {s:Sto} {K:ORes->Prop} {d:Prop},bsC (some (k,z)) len h s K d=(len*k<=16777216/\bsF (fE (fun i=>some (i*k,k)) (eG z len) h) len s K))/\
 (∀ {cs:List AV} {len:Nat} {s:Sto} {K:ORes->Prop},bsF (some cs) len s K↔cs.all AV.isCell=true/\K (.val' (.sl s.n 0 0 len (.is len)) (s.push (ob cs))))/\(∀ {z:List AV},eG z 0=[])/\(∀ {z:List AV} {n:Nat},eG z (n+1)=z++eG z n)/\
 (∀ {P:Program} {s:Sto} {t u:TypeId} {x y:AV},abuiltin P s .append [t,u].toArray [x,y]=apC (DY P t u) s x y (uJ P s .append [t,u].toArray [x,y]))/\(∀ {k by_:Nat} {s:Sto} {v y:AV} {d:Option ORes},apC (some (k,by_)) s v y d=apF s k by_ v (JO s k y))/\
 (∀ {s:Sto} {k id g off len:Nat} {c:ACap},JO s k (.sl id g off len c)=apO (s.get id) g off (len*k) len)/\(∀ {g off m n:Nat} {cs:List AV},off+m<=cs.length->(aM cs off m).all AV.isCell=true->apO (some (aW g cs)) g off m n=some (n,aM cs off m))/\(∀ {cs:List AV} {m:Nat},m=cs.length->aM cs 0 m=cs)/\
 (∀ {s:Sto} {k:Nat},JO s k .nils=some (0,[]))/\(∀ {s:Sto} {l:List Nat},JO s 1 (.str l)=some (l.length,fP l))/\
 (∀ {s:Sto} {k by_ n:Nat} {new:List AV},n≠0->((2*n+1024)*by_<=281474976710656/\n<4611686018427387904)->new.all AV.isCell=true->apF s k by_ .nils (some (n,new))=some (.val' (.sl s.n 0 0 n (.room k)) (s.push (ob new))))/\
 (∀ {s:Sto} {k by_ id g len n:Nat} {new:List AV},apF s k by_ (.sl id g 0 len (.room k)) (some (n,new))=apR s (s.get id) id g len k by_ n new)/\
 (∀ {s:Sto} {id g len k by_ n:Nat} {cs new:List AV},cs.length=len*k->new.length=n*k->((2*(len+n)+1024)*by_<=281474976710656/\len+n<4611686018427387904)->apR s (some (aW g cs)) id g len k by_ n new=some (.val' (.sl id (g+1) 0 (len+n) (.room k)) (s.put id (aW (g+1) (cs++new))))):=
 ⟨aJv,rfl,aDw,rfl,ZI,WP,WQ,JM,rfl,aDx,rfl,rfl,aJw,DS,aOx,rfl,rfl,rfl,rfl,aEa,BZ,sR,DU,aJx,BN,aJy,OC,ZL,JN,aJz,aKa,rfl,rfl,rfl,
  aEc,rfl,rfl,rfl,SI,ZM,ZN,DX,rfl,aEd,rfl,rfl,aEe,rfl,aOy,aKb,kW,aEf,aKc,aEg,aEh,aKd⟩
def Sl (a:AV) (xs:List AV):Prop:=(a=.nils/\xs=[]∨∃ c,a=.fz xs c)/\xs.length<=9223372036854775807
theorem Sl.cell {a:AV} {xs:List AV} (h:Sl a xs):a.isCell=true:=by
 rcases h.1 with ⟨rfl,_⟩ | ⟨c,rfl⟩<;>rfl
theorem Sl.len {a:AV} {xs:List AV} (h:Sl a xs) {s:Sto} {d:Option ORes}:DT (some 1) s a d=some (.val (.int .i64 (xs.length:Nat))):=by
 rcases h.1 with ⟨rfl,rfl⟩ | ⟨c,rfl⟩<;>rfl
theorem Sl.idx {a:AV} {xs:List AV} (h:Sl a xs) {P:Program} {t:TypeId} {v:AV}:bT P t a v=dS (pG P t) xs v (fK P t a v):=by
 rcases h.1 with ⟨rfl,rfl⟩ | ⟨c,rfl⟩
 ·cases e:pG P t with
  | none=>rfl
  | some k=>
    have b:dS (some k) [] v (fK P t .nils v)=none:=by
     simp only [dS,List.length_nil];cases rJ v 0<;>rfl
    rw [b];simp only [bT]
    cases P.underlying t with
    | none=>rfl
    | some d=>cases d<;>rfl
 ·exact sR
theorem eF {α:Type} [Inhabited α] {f:α->AV} {k:Nat} (h:∀ a,(f a).cells.length=k) {l:List α} {q:IntKind} {i:Int} {d:Option AV} (c:0<=i) (e:i<l.length):dS (some k) (l.map f) (.int q i) d=some (.pf (f (l.getD i.toNat default))):=by
 have b:i.toNat<l.length:=by omega
 refine uK c (by simpa using e) ?_ (h _);rw [List.getElem?_map,List.getElem?_eq_getElem b];simp [List.getD_eq_getElem?_getD,b]
def sS (n:Int):AV:=.int .i64 n
theorem sT (n:Int):(sS n).cells.length=1:=rfl
theorem lZ {n:Nat} {a:AV} {xs:List AV} (h:Sl a xs) (b:∀ x∈xs,UnderE n x):UnderE n a:=by
 rcases h.1 with ⟨rfl,_⟩ | ⟨c,rfl⟩
 ·exact ⟨1,rfl⟩
 ·exact HY b
theorem aEi {n:Nat} (l:List Int):∀ x∈l.map sS,UnderE n x:=fun x b=>by obtain ⟨a,_,rfl⟩:=List.mem_map.1 b;exact ⟨1,rfl⟩
end
end Go.Abs
