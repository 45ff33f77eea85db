/-
  The abstract machine: operations by facts on types that a program's own text gives.
-/
import Derived.Test.YtdipddlhenoglaaGreatEf
set_option linter.unusedVariables false
set_option linter.unusedSimpArgs false
namespace Go.Abs
noncomputable section
variable {P:Program}
def MJ:=@fE
def YK:=@mD
def tyC (x:Option (Option Nat)) (o:Option AObj) (g off:Nat) (d:Option AV):Option AV:=match x with
 | some x=>ldK (some x) o g off
 | none=>d
theorem aNi {s:Sto} {t:TypeId} {id g off:Nat}:fE P s t (.ptr id g off)=tyC (tyK P t) (s.get id) g off (MJ P s t (.ptr id g off)):=by
 cases h:tyK P t with
 | none=>rfl
 | some x=>rw [aCi h];rfl
def stC (x:Option (Option Nat)) (s:Sto) (id g off:Nat) (v:AV) (o:Option AObj) (d:Option Sto):Option Sto:=match x with
 | some x=>stK s (some x) id g off v o
 | none=>d
theorem aIc {s:Sto} {t:TypeId} {id g off:Nat} {v:AV}:mD P s t (.ptr id g off) v=stC (tyK P t) s id g off v (s.get id) (YK P s t (.ptr id g off) v):=by
 cases h:tyK P t with
 | none=>rfl
 | some x=>rw [VG h];rfl
def pfC (x:Option (Option Nat)) (v:AV) (d:Option AV):Option AV:=match x with
 | some none=>bif v.isCell then some v else none
 | some (some k)=>(match v with
   | .agg cs=>bif Nat.beq cs.length k then some (.agg cs) else none
   | _=>none)
 | none=>d
theorem aBy {s:Sto} {t:TypeId} {v:AV}:fE P s t (.pf v)=pfC (tyK P t) v (MJ P s t (.pf v)):=by
 cases h:tyK P t with
 | none=>rfl
 | some x=>
   obtain ⟨a,b⟩:=rH h
   cases x with
   | none=>simp only [fE,a,b,pfC,jS,Option.isSome]
   | some k=>
     simp only [fE,a,b,pfC,jS,Option.isSome];cases v<;>rfl
theorem YL {v:AV} {d:Option AV} (h:v.isCell=true):pfC (some none) v d=some v:=by simp [pfC,h]
theorem YM {cs:List AV} {k:Nat} {d:Option AV} (h:cs.length=k):pfC (some (some k)) (.agg cs) d=some (.agg cs):=by simp [pfC,h]
def oJ:=@bV
def aQx (x:Option (Nat × Option Nat)) (id g o:Nat) (d:Option AV):Option AV:=match x with
 | some (off,_)=>some (.ptr id g (o+off))
 | none=>d
theorem MK {t:TypeId} {id g o f:Nat}:bV P t (.ptr id g o) f=aQx (bI P t f) id g o (oJ P t (.ptr id g o) f):=by
 cases h:bI P t f with
 | none=>rfl
 | some x=>obtain ⟨off,y⟩:=x;rw [FS h];rfl
def rE (x:Option (Nat × Option Nat)) (cs:List AV) (d:Option AV):Option AV:=match x with
 | some (off,none)=>(match cs[off]? with
   | some v=>bif v.isCell then some (.pf v) else none
   | none=>none)
 | some (off,some n)=>bif Nat.ble (off+n) cs.length then some (.pf (.agg (bJ cs off n))) else none
 | none=>d
theorem FD {t:TypeId} {cs:List AV} {f:Nat}:bV P t (.pf (.agg cs)) f=rE (bI P t f) cs (oJ P t (.pf (.agg cs)) f):=by
 cases h:bI P t f with
 | none=>rfl
 | some x=>
   obtain ⟨off,y⟩:=x;unfold bI at h;split at h
   ·rename_i fields o
    split at h
    ·rename_i c b
     split at h
     ·rename_i z k
      split at h
      ·cases h
      ·rename_i e
       simp only [Option.some.injEq,Prod.mk.injEq]at h;obtain ⟨rfl,rfl⟩:=h;obtain ⟨d,l⟩:=rH k
       have:∃ m,jS z=m+1:=by
        cases z with
        | none=>exact ⟨0,rfl⟩
        | some n=>cases n with
          | zero=>exact absurd rfl e
          | succ m=>exact ⟨m,rfl⟩
       obtain ⟨m,q⟩:=this;rw [q]at d
       cases z with
       | none=>
         have a:CI P c.type=some false:=l;simp only [bV,o,b,d,vF,AL k,ptK,a,rE];cases cs[c.offset]?<;>rfl
       | some n=>
         have a:CI P c.type=some true:=l;simp only [bV,o,b,d,vF,AL k,ptK,a,rE];cases Nat.ble (c.offset+n) cs.length<;>rfl
     ·cases h
    ·cases h
   ·cases h
theorem aId {off:Nat} {cs:List AV} {d:Option AV} {v:AV} (h:cs[off]?=some v) (a:v.isCell=true):rE (some (off,none)) cs d=some (.pf v):=by simp [rE,h,a]
theorem aIe {off n:Nat} {cs:List AV} {d:Option AV} (h:off+n<=cs.length):rE (some (off,some n)) cs d=some (.pf (.agg (bJ cs off n))):=by
 have:Nat.ble (off+n) cs.length=true:=by simpa using h
 simp [rE,this]
def gT (P:Program) (t:TypeId):Option Nat:=match P.underlying t with
 | some .string=>some 0
 | some (.slice _)=>some 1
 | some (.map _ _)=>some 2
 | some (.array n _)=>some (3+n)
 | _=>none
def qC:=@aY
def HC (x:Option Nat) (s:Sto) (v:AV) (d:Option ORes):Option ORes:=match x with
 | some 0=>(match v with
   | .str l=>some (.val (.int .i64 (l.length:Nat)))
   | _=>none)
 | some 1=>(match v with
   | .str _=>none
   | v=>(match zD v with
     | some n=>some (.val (.int .i64 (n:Nat)))
     | none=>none))
 | some 2=>(match v with
   | .nilm=>some (.val (.int .i64 0))
   | .map id=>(match s.get id with
     | some (.map a _)=>some (.val (.int .i64 (a.length:Nat)))
     | _=>none)
   | _=>none)
 | some (n+3)=>some (.val (.int .i64 (n:Nat)))
 | none=>d
theorem aQy {s:Sto} {t:TypeId} {v:AV}:aY P s .len [t].toArray [v]=HC (gT P t) s v (qC P s .len [t].toArray [v]):=by
 have b:([t].toArray)[0]?=some t:=rfl
 cases h:gT P t with
 | none=>rfl
 | some x=>
   unfold gT at h;simp only [aY,b]
   cases a:P.underlying t with
   | none=>rw [a]at h;cases h
   | some d=>
     rw [a]at h
     cases d with
     | string=>simp only [Option.some.injEq]at h;subst h;cases v<;>rfl
     | slice e=>simp only [Option.some.injEq]at h;subst h;cases v<;>rfl
     | map k e=>simp only [Option.some.injEq]at h;subst h;cases v<;>rfl
     | array n e=>
       simp only [Option.some.injEq]at h;subst h;rw [show 3+n=n+3 by omega];cases v<;>rfl
     | _=>cases h
theorem CV {k:IntKind} {i:Int} {n:Nat} (a:0<=i) (b:i<n):rV (.int k i) n=some i.toNat:=by
 obtain ⟨m,rfl⟩:=Int.eq_ofNat_of_zero_le a
 have:Nat.blt m n=true:=by simp;omega
 show (bif Nat.blt m n then some m else none)=_;rw [this];rfl
theorem yE {d n:Nat}:fQ none d n=some d:=rfl
theorem CW {k:IntKind} {i:Int} {d n:Nat} (a:0<=i) (b:i<=n):fQ (some (.int k i)) d n=some i.toNat:=by
 obtain ⟨m,rfl⟩:=Int.eq_ofNat_of_zero_le a
 have:Nat.ble m n=true:=by simp;omega
 show (bif Nat.ble m n then some m else none)=_;rw [this];rfl
def YO:=@rW
def fJ:=@bW
def ML (x:Option Nat) (l:List Nat) (v:AV) (d:Option AV):Option AV:=match x with
 | some 0=>(match rV v l.length with
   | some i=>some (.int .u8 ((l.getD i 0:Nat):Int))
   | none=>none)
 | _=>d
theorem aIf {t:TypeId} {l:List Nat} {v:AV}:rW P t (.str l) v=ML (gT P t) l v (YO P t (.str l) v):=by
 unfold gT
 cases c:P.underlying t with
 | none=>rfl
 | some d=>
   cases d<;>try rfl
   rotate_left
   ·show _=ML (some (3+_)) l v _
    rw [Nat.add_comm 3];rfl
   simp only [rW,c,ML]
   cases a:rV v l.length with
   | none=>rfl
   | some i=>
     simp only
     have:i<l.length:=by
      unfold rV at a;split at a
      ·rename_i j
       cases b:Nat.blt j l.length with
       | true=>rw [b]at a;simp at a;subst a;simpa using b
       | false=>rw [b]at a;cases a
      ·cases a
     rw [List.getElem?_eq_getElem this];simp [List.getD_eq_getElem?_getD,this]
theorem MM {l:List Nat} {k:IntKind} {i:Int} {d:Option AV} (a:0<=i) (b:i<l.length):ML (some 0) l (.int k i) d=some (.int .u8 ((l.getD i.toNat 0:Nat):Int)):=by
 simp only [ML,CV a b]
def wY (x:Option Nat) (l:List AV) (v:AV) (d:Option AV):Option AV:=match x with
 | some k=>(match rV v l.length with
   | some i=>(match l[i]? with
     | some a=>bif Nat.beq a.cells.length k then some (.pf a) else none
     | none=>none)
   | none=>none)
 | none=>d
theorem FE {t:TypeId} {l:List AV} {c:Bool} {v:AV}:bW P t (.fz l c) v=wY (qD P t) l v (fJ P t (.fz l c) v):=by
 cases h:qD P t with
 | none=>rfl
 | some k=>
   unfold qD at h;split at h
   ·rename_i e a
    simp only [bW,a,h,wY];cases rV v l.length<;>rfl
   ·cases h
theorem YP {k:Nat} {l:List AV} {q:IntKind} {i:Int} {d:Option AV} {a:AV} (b:0<=i) (c:i<l.length) (e:l[i.toNat]?=some a) (f:a.cells.length=k):wY (some k) l (.int q i) d=some (.pf a):=by
 have:Nat.beq a.cells.length k=true:=by rw [f];exact Nat.beq_refl k
 simp only [wY,CV b c,e,this,cond_true]
def aBz (x:Option Nat) (id g off len:Nat) (v:AV) (d:Option AV):Option AV:=match x with
 | some k=>(match rV v len with
   | some i=>some (.ptr id g (off+i*k))
   | none=>none)
 | none=>d
theorem FF {t:TypeId} {id g off len:Nat} {c:ACap} {v:AV}:bW P t (.sl id g off len c) v=aBz (qD P t) id g off len v (fJ P t (.sl id g off len c) v):=by
 cases h:qD P t with
 | none=>rfl
 | some k=>
   unfold qD at h;split at h
   ·rename_i e a
    simp only [bW,a,h,aBz];cases rV v len<;>rfl
   ·cases h
theorem aNj {k id g off len:Nat} {q:IntKind} {i:Int} {d:Option AV} (a:0<=i) (b:i<len):aBz (some k) id g off len (.int q i) d=some (.ptr id g (off+i.toNat*k)):=by
 simp only [aBz,CV a b]
def aCa (x:Option (Nat × Option Nat)) (id g off:Nat) (v:AV) (d:Option AV):Option AV:=match x with
 | some (n,k)=>(match rV v n with
   | some i=>some (.ptr id g (off+i*jS k))
   | none=>none)
 | none=>d
theorem CF {t:TypeId} {id g off:Nat} {v:AV}:bW P t (.ptr id g off) v=aCa (arK P t) id g off v (fJ P t (.ptr id g off) v):=by
 cases h:arK P t with
 | none=>rfl
 | some x=>
   obtain ⟨n,k⟩:=x;unfold arK at h;split at h
   ·rename_i m e c
    cases a:tyK P e with
    | none=>rw [a]at h;cases h
    | some y=>
      rw [a]at h;simp only [Option.map_some,Option.some.injEq,Prod.mk.injEq]at h;obtain ⟨rfl,rfl⟩:=h;obtain ⟨b,d⟩:=rH a;simp only [bW,c,b,aCa];cases rV v m<;>rfl
   ·cases h
theorem aNk {n id g off:Nat} {k:Option Nat} {q:IntKind} {i:Int} {d:Option AV} (a:0<=i) (b:i<n):aCa (some (n,k)) id g off (.int q i) d=some (.ptr id g (off+i.toNat*jS k)):=by
 simp only [aCa,CV a b]
def yF:=@dQ
def QC (x:Option Nat) (l:List Nat) (lo a:Option AV) (d:Option AV):Option AV:=match x with
 | some 0=>(match fQ a l.length l.length with
   | some h=>(match fQ lo 0 h with
     | some i=>some (.str (bJ l i (h-i)))
     | none=>none)
   | none=>none)
 | _=>d
theorem QD {t:TypeId} {l:List Nat} {lo a:Option AV}:dQ P t (.str l) lo a none=QC (gT P t) l lo a (yF P t (.str l) lo a none):=by
 unfold gT
 cases b:P.underlying t with
 | none=>rfl
 | some d=>
   cases d<;>try rfl
   rotate_left
   ·show _=QC (some (3+_)) l lo a _
    rw [Nat.add_comm 3];rfl
   simp only [dQ,b,QC]
   cases fQ a l.length l.length with
   | none=>rfl
   | some h=>cases fQ lo 0 h<;>rfl
theorem YQ {l:List Nat} {j:IntKind} {a:Int} {d:Option AV} (b:0<=a) (c:a<=l.length):QC (some 0) l (some (.int j a)) none d=some (.str (l.drop a.toNat)):=by
 simp only [QC,yE,CW b c];simp only [bJ];rw [List.take_of_length_le (by simp)]
def FH (x:Option Nat) (v:AV) (lo a b:Option AV) (d:Option AV):Option AV:=match x with
 | some k=>oS k v lo a b
 | none=>d
theorem kQ {t:TypeId} {id g off len:Nat} {c:ACap} {lo a b:Option AV}:dQ P t (.sl id g off len c) lo a b=FH (qD P t) (.sl id g off len c) lo a b (yF P t (.sl id g off len c) lo a b):=by
 cases h:qD P t with
 | none=>rfl
 | some k=>
   unfold qD at h;split at h
   ·rename_i e d;simp only [dQ,d,h,FH]
   ·cases h
theorem UZ {t:TypeId} {l:List AV} {c:Bool} {lo a b:Option AV}:dQ P t (.fz l c) lo a b=FH (qD P t) (.fz l c) lo a b (yF P t (.fz l c) lo a b):=by
 cases h:qD P t with
 | none=>rfl
 | some k=>
   unfold qD at h;split at h
   ·rename_i e d;simp only [dQ,d,h,FH]
   ·cases h
theorem QE {t:TypeId} {lo a b:Option AV}:dQ P t .nils lo a b=FH (qD P t) .nils lo a b (yF P t .nils lo a b):=by
 cases h:qD P t with
 | none=>rfl
 | some k=>
   unfold qD at h;split at h
   ·rename_i e c;simp only [dQ,c,h,FH]
   ·cases h
inductive CvK where
 | int (k:IntKind)
 | str
 | bytes
 | ofBytes
def cvK (P:Program) (a dst:TypeId):Option CvK:=match P.underlying a,P.underlying dst with
 | some (.int _),some (.int k)=>some (.int k)
 | some .string,some .string=>some .str
 | some .string,some (.slice e)=>(match P.underlying e with
   | some (.int .u8)=>some .bytes
   | _=>none)
 | some (.slice e),some .string=>(match P.underlying e with
   | some (.int .u8)=>some .ofBytes
   | _=>none)
 | _,_=>none
end
end Go.Abs
/-
 The abstract machine: what builds and what appends.
-/
namespace Go.Abs
noncomputable section
variable {P:Program} {O:cH}
def eE (a:Nat->Option (Nat × Nat)) (p:Option (Nat × Nat)) (v:AV) (cells:List AV) (rest:List (Nat × AV)):Option (List AV):=match p with
 | none=>none
 | some (off,size)=>bif Nat.beq v.cells.length size&&Nat.ble (off+size) cells.length&&v.cells.all AV.isCell then fK a (cA cells off v.cells) rest else none
theorem VA {a:Nat->Option (Nat × Nat)} {i:Nat} {v:AV} {cells:List AV} {rest:List (Nat × AV)}:fK a cells ((i,v)::rest)=eE a (a i) v cells rest:=by
 simp only [fK,eE]
 cases a i with
 | none=>rfl
 | some p=>
   obtain ⟨off,size⟩:=p;simp only
   cases h:(Nat.beq v.cells.length size&&Nat.ble (off+size) cells.length&&v.cells.all AV.isCell) with
   | false=>rfl
   | true=>
     simp only [Bool.and_eq_true]at h;have:=Nat.eq_of_beq_eq_true h.1.1;simp only [cond_true,cA,this]
theorem aCb {a:Nat->Option (Nat × Nat)} {off:Nat} {v:AV} {cells:List AV} {rest:List (Nat × AV)} (b:v.isCell=true) (d:off<cells.length):eE a (some (off,1)) v cells rest=fK a (cells.set off v) rest:=by
 have e:v.cells=[v]:=by cases v<;>first | rfl | cases b
 have c:Nat.ble (off+1) cells.length=true:=by simp;omega
 simp only [eE,e,List.length_cons,List.length_nil,Nat.zero_add,Nat.beq_refl,c,List.all_cons,b,List.all_nil,Bool.and_self,cond_true,FR d]
theorem aCc {a:Nat->Option (Nat × Nat)} {off n:Nat} {vs cells:List AV} {rest:List (Nat × AV)} (e:vs.length=n) (c:vs.all AV.isCell=true) (d:off+n<=cells.length):eE a (some (off,n)) (.agg vs) cells rest=fK a (cA cells off vs) rest:=by
 subst e
 have b:Nat.ble (off+vs.length) cells.length=true:=by simpa using d
 simp only [eE,AV.cells,Nat.beq_refl,b,c,Bool.and_self,cond_true]
inductive BdK where
 | struct (z:List AV) (ps:List (Nat × Nat))
 | array (z:List AV) (k:Nat)
def rF (P:Program) (t:TypeId):Option BdK:=match bF P t,P.underlying t with
 | some z,some (.struct fields)=>(rU P fields.toList).map fun ps=>.struct z.cells ps
 | some z,some (.array _ a)=>(qP P a).map fun k=>.array z.cells k
 | _,_=>none
def YR:=@pI
def bdC (x:Option BdK) (a:List (Nat × AV)) (d:Option AV):Option AV:=match x with
 | some (.struct z ps)=>(fK (fun i=>ps[i]?) z a).map .agg
 | some (.array z k)=>(fK (fun i=>some (i*k,k)) z a).map .agg
 | none=>d
theorem aIg {t:TypeId} {a:List (Nat × AV)}:pI P t a=bdC (rF P t) a (YR P t a):=by
 cases h:rF P t with
 | none=>rfl
 | some x=>
   unfold rF at h;split at h
   ·rename_i z fields d e
    cases b:rU P fields.toList with
    | none=>rw [b]at h;cases h
    | some ps=>
      rw [b]at h;simp only [Option.map_some,Option.some.injEq]at h;subst h;simp only [pI,d,e,b,bdC];cases fK (fun i=>ps[i]?) z.cells a<;>rfl
   ·rename_i z n c d e
    cases b:qP P c with
    | none=>rw [b]at h;cases h
    | some k=>
      rw [b]at h;simp only [Option.map_some,Option.some.injEq]at h;subst h;simp only [pI,d,e,b,bdC];cases fK (fun i=>some (i*k,k)) z.cells a<;>rfl
   ·cases h
def FI (P:Program) (t:TypeId):Option (Nat × List AV):=match P.underlying t with
 | some (.slice a)=>(match qP P a,bF P a with
   | some k,some z=>bif Nat.beq z.cells.length k&&Nat.blt 0 k then some (k,z.cells) else none
   | _,_=>none)
 | _=>none
def bsF (o:Option (List AV)) (len:Nat) (s:Sto) (K:ORes->Prop):Prop:=∃ cs,o=some cs/\cs.all AV.isCell=true/\K (.val' (.sl s.n 0 0 len (.is len)) (s.push (ob cs)))
@[congr] theorem aSm {o o':Option (List AV)} {len:Nat} {s s':Sto} {K:ORes->Prop} (h:o=o') (h':s=s'):bsF o len s K=bsF o' len s' K:=by rw [h,h']
theorem aIh {cs:List AV} {len:Nat} {s:Sto} {K:ORes->Prop}:bsF (some cs) len s K↔cs.all AV.isCell=true/\K (.val' (.sl s.n 0 0 len (.is len)) (s.push (ob cs))):=by simp [bsF]
def bsC (x:Option (Nat × List AV)) (len:Nat) (a:List (Nat × AV)) (s:Sto) (K:ORes->Prop) (d:Prop):Prop:=match x with
 | some (k,z)=>len*k<=16777216/\bsF (fK (fun i=>some (i*k,k)) (cQ z len) a) len s K
 | none=>d
def aUr:=@fW
theorem jC {z:List AV}:∀ n:Nat,(cQ z n).length=n*z.length
 | 0=>by simp [cQ]
 | n+1=>by simp only [cQ,List.length_append,jC n,Nat.succ_mul];omega
theorem FJ {t:TypeId} {len:Nat} {a:Array (Nat × Operand)} {e:Env} {K:ORes->Prop}:
 fW P O (.buildSlice t len a) e K↔bsC (FI P t) len (a.toList.map fun p=>(p.1,e.eval p.2)) e.s K (aUr P O (.buildSlice t len a) e K):=by
 cases h:FI P t with
 | none=>exact .rfl
 | some x=>
   obtain ⟨k,z⟩:=x;unfold FI at h;split at h
   ·rename_i C A
    split at h
    ·rename_i c f r u
     cases l:(Nat.beq f.cells.length c&&Nat.blt 0 c) with
     | false=>rw [l]at h;cases h
     | true=>
       rw [l]at h;simp only [cond_true,Option.some.injEq,Prod.mk.injEq]at h;obtain ⟨rfl,rfl⟩:=h;simp only [Bool.and_eq_true,Nat.blt_eq]at l;have v:=Nat.eq_of_beq_eq_true l.1
       have y:∀ call,fC P call (.buildSlice t len a) e=if len*c<=16777216 then (match fK (fun i=>some (i*c,c)) (cQ f.cells len) (a.toList.map fun p=>(p.1,e.eval p.2)) with
        | some cs=>if cs.all AV.isCell=true then some (.val' (.sl e.s.n 0 0 len (.is len)) (e.s.push (ob cs))) else none
        | none=>none) else none:=by
        intro call;simp only [fC,iB,A,r,u];by_cases b:len*c<=16777216
        ·have m:Nat.ble (len*c) (2 ^ 24)=true:=by simpa using b
         rw [if_pos b,m];simp only [cond_true]
         have q:(bif Nat.beq (len*c) 0 then some [] else some (cQ f.cells len))=some (cQ f.cells len):=by
          cases B:Nat.beq (len*c) 0 with
          | false=>rfl
          | true=>
            have:=Nat.eq_of_beq_eq_true B
            have w:len=0:=by
             rcases Nat.mul_eq_zero.1 this with h | h
             ·exact h
             ·omega
            subst w;rfl
         rw [q];simp only [jC,v,Nat.beq_refl,cond_true]
         cases fK (fun i=>some (i*c,c)) (cQ f.cells len) (a.toList.map fun p=>(p.1,e.eval p.2)) with
         | none=>rfl
         | some cs=>
           simp only [rM];by_cases d:cs.all AV.isCell=true
           ·rw [if_pos d,if_pos d]
           ·rw [if_neg d,if_neg d]
        ·have m:Nat.ble (len*c) (2 ^ 24)=false:=by
          cases o:Nat.ble (len*c) (2 ^ 24) with
          | false=>rfl
          | true=>exact absurd (by simpa using o) b
         rw [if_neg b,m];rfl
       rw [rL y];simp only [bsC,bsF,vS];by_cases b:len*c<=16777216
       ·rw [if_pos b]
        cases fK (fun i=>some (i*c,c)) (cQ f.cells len) (a.toList.map fun p=>(p.1,e.eval p.2)) with
        | none=>simp
        | some cs=>
          by_cases d:cs.all AV.isCell=true
          ·simp only [d,if_true,Option.some.injEq,exists_eq_left',b,true_and]
          ·simp only [d,if_false,Option.some.injEq,exists_eq_left',b,true_and,false_and,reduceCtorEq,exists_false,Bool.false_eq_true]
       ·rw [if_neg b];simp [b]
    ·cases h
   ·cases h
def CX (P:Program) (t u:TypeId):Option (Nat × Nat):=match apK P t,P.underlying u with
 | some x,some (.slice _)=>some x
 | some x,some .string=>some x
 | _,_=>none
def QF (s:Sto) (k:Nat) (y:AV):Option (Nat × List AV):=match zD y with
 | none=>none
 | some n=>(match gB s k n y with
   | none=>none
   | some new=>bif new.all AV.isCell then some (n,new) else none)
def apF (s:Sto) (k by_:Nat) (x:AV) (y:Option (Nat × List AV)):Option ORes:=match y with
 | none=>none
 | some (n,new)=>(match x with
   | .nils=>bif Nat.beq n 0 then some (.val .nils) else fR s k by_ [] new n
   | .fz xs true=>bif Nat.beq n 0 then some (.val x) else (match gB s k xs.length x with
     | some old=>fR s k by_ old new (xs.length+n)
     | none=>none)
   | .sl id g off len (.is c)=>bif Nat.ble (len+n) c then
    (match s.get id with
    | some (.cells a m cs)=>bif Nat.beq g a&&Nat.ble (off+c*k) m then some (.val' (.sl id g off (len+n) (.is c)) (s.put id (.cells a m (cs.lay (off+len*k) new)))) else none
    | _=>none)
     else (match gB s k len x with
      | some old=>fR s k by_ old new (len+n)
      | none=>none)
   | .sl id g off len (.room r)=>(match s.get id with
     | some (.cells a m cs)=>bif Nat.beq g a&&Nat.beq k r&&Nat.beq (off+len*k) m&&fF (len+n) by_ then
      bif Nat.beq off 0 then some (.val' (.sl id (a+1) 0 (len+n) (.room k)) (s.put id (.cells (a+1) (m+n*k) (cs.lay m new))))
      else (match cs.row off (len*k) with
      | some old=>some (.val' (.sl id (a+1) 0 (len+n) (.room k)) (s.put id (.cells (a+1) ((len+n)*k) (Tr.leaf.lay 0 (old++new)))))
      | none=>none)
       else none
     | _=>none)
   | .sl id g off len (.least r c)=>bif Nat.ble (len+n) c then
    (match s.get id with
    | some (.cells a m cs)=>bif Nat.beq g a&&Nat.beq k r&&Nat.ble (off+c*k) m then some (.val' (.sl id g off (len+n) (cT k (len+n) c)) (s.put id (.cells a m (cs.lay (off+len*k) new)))) else none
    | _=>none)
     else none
   | _=>none)
def apC (x:Option (Nat × Nat)) (s:Sto) (v y:AV) (d:Option ORes):Option ORes:=match x with
 | some (k,by_)=>apF s k by_ v (QF s k y)
 | none=>d
theorem aIi {s:Sto} {t u:TypeId} {x y:AV}:aY P s .append [t,u].toArray [x,y]=apC (CX P t u) s x y (qC P s .append [t,u].toArray [x,y]):=by
 cases h:CX P t u with
 | none=>rfl
 | some q=>
   obtain ⟨k,by_⟩:=q
   have f:∀ d,P.underlying u=some d->(∀ j,d≠.int j)->apK P t=some (k,by_)->aY P s .append [t,u].toArray [x,y]=apF s k by_ x (QF s k y):=by
    intro d w r a
    have b:aY P s .append [t,u].toArray [x,y]=zE P s t x y:=by
     simp only [aY,w]
     try (cases d<;>first | rfl | exact absurd rfl (r _))
    rw [b];unfold apK at a;split at a
    ·rename_i e v
     split at a
     ·rename_i o b' z a1 a2 a3
      cases m:Nat.beq z.cells.length o with
      | false=>rw [m]at a;cases a
      | true=>
        rw [m]at a;simp only [cond_true,Option.some.injEq,Prod.mk.injEq]at a;obtain ⟨rfl,rfl⟩:=a;simp only [zE,v,a1,a2,a3,QF]
        cases zD y with
        | none=>rfl
        | some n=>
          simp only
          cases gB s o n y with
          | none=>rfl
          | some new=>
            simp only [m,Bool.true_and]
            cases new.all AV.isCell with
            | false=>rfl
            | true=>
              simp only [cond_true,apF]
              cases x with
              | sl id g off len c=>cases c<;>rfl
              | fz xs c=>cases c<;>rfl
              | _=>rfl
     ·cases a
    ·cases a
   unfold CX at h;split at h
   ·rename_i q e b l;cases h;exact f _ l (by simp) b
   ·rename_i q b l;cases h;exact f _ l (by simp) b
   ·cases h
def apO (o:Option AObj) (g off m:Nat) (n:Nat):Option (Nat × List AV):=match o with
 | some (.cells a q c)=>bif Nat.beq g a&&Nat.ble (off+m) q then (match c.row off m with
   | some l=>bif l.all AV.isCell then some (n,l) else none
   | none=>none) else none
 | _=>none
theorem aRa {s:Sto} {k id g off len:Nat} {c:ACap}:QF s k (.sl id g off len c)=apO (s.get id) g off (len*k) len:=by
 have:Nat.ble len len=true:=by simp
 simp only [QF,zD,gB,this,cond_true,apO]
 cases s.get id with
 | none=>rfl
 | some o=>
   cases o with
   | cells a q cs=>
     simp only
     cases (Nat.beq g a&&Nat.ble (off+len*k) q) with
     | false=>rfl
     | true=>
       simp only [cond_true];cases cs.row off (len*k)<;>rfl
   | _=>rfl
theorem aNl {g off m n:Nat} {cs:List AV} (h:off+m<=cs.length) (a:(bJ cs off m).all AV.isCell=true):apO (some (aQ g cs)) g off m n=some (n,bJ cs off m):=by
 have:Nat.ble (off+m) cs.length=true:=by simpa using h
 simp only [apO,aQ,Nat.beq_refl,this,Bool.and_self,cond_true,Tr.row_lay _ _ _ h,a]
theorem FK {cs:List AV} {m:Nat} (h:m=cs.length):bJ cs 0 m=cs:=by subst h;simp [bJ]
theorem aCd {s:Sto} {k n:Nat} {l:List AV} {c:Bool} (m:n<=l.length) (d:∀ x∈l,x.cells.length=k/\x.cells.all AV.isCell=true):gB s k n (.fz l c)=some ((l.take n).flatMap AV.cells):=by
 have e:Nat.ble n l.length=true:=by simpa using m
 have f:((l.take n).all fun x=>Nat.beq x.cells.length k)=true:=List.all_eq_true.2 fun x a=>by
  rw [(d x (List.mem_of_mem_take a)).1];exact Nat.beq_refl k
 have h:((l.take n).flatMap AV.cells).all AV.isCell=true:=List.all_eq_true.2 fun y b=>by
  obtain ⟨x,a,b⟩:=List.mem_flatMap.1 b;exact List.all_eq_true.1 (d x (List.mem_of_mem_take a)).2 y b
 simp only [gB,e,f,h,cond_true,Bool.and_self]
theorem aRb {s:Sto} {k:Nat} {l:List AV} {c:Bool} (b:∀ x∈l,x.cells.length=k/\x.cells.all AV.isCell=true):QF s k (.fz l c)=some (l.length,l.flatMap AV.cells):=by
 have d:(l.flatMap AV.cells).all AV.isCell=true:=List.all_eq_true.2 fun y a=>by
  obtain ⟨x,e,a⟩:=List.mem_flatMap.1 a;exact List.all_eq_true.1 (b x e).2 y a
 simp only [QF,zD,aCd (Nat.le_refl _) b,List.take_length,d,cond_true]
theorem uU {n by_:Nat} (h:(2*n+1024)*by_<=281474976710656/\n<4611686018427387904):fF n by_=true:=by
 simp only [fF,Bool.and_eq_true,Nat.ble_eq,Nat.blt_eq];exact ⟨by omega,by omega⟩
theorem yG {s:Sto} {k by_ n:Nat} {new:List AV} (c:n≠0) (d:(2*n+1024)*by_<=281474976710656/\n<4611686018427387904) (b:new.all AV.isCell=true):
 apF s k by_ .nils (some (n,new))=some (.val' (.sl s.n 0 0 n (.room k)) (s.push (ob new))):=by
 have a:Nat.beq n 0=false:=by cases h:Nat.beq n 0 with | false=>rfl | true=>exact absurd (Nat.eq_of_beq_eq_true h) c
 simp only [apF,a,cond_false,fR,uU d,cond_true,List.nil_append,rM,b,if_true]
theorem AJ {s:Sto} {k by_:Nat} {new:List AV}:apF s k by_ .nils (some (0,new))=some (.val .nils):=rfl
def apR (s:Sto) (o:Option AObj) (id g len k by_ n:Nat) (new:List AV):Option ORes:=match o with
 | some (.cells a m cs)=>bif Nat.beq g a&&Nat.beq (len*k) m&&fF (len+n) by_ then some (.val' (.sl id (a+1) 0 (len+n) (.room k)) (s.put id (.cells (a+1) (m+n*k) (cs.lay m new)))) else none
 | _=>none
theorem tS {s:Sto} {k by_ id g len n:Nat} {new:List AV}:apF s k by_ (.sl id g 0 len (.room k)) (some (n,new))=apR s (s.get id) id g len k by_ n new:=by
 simp only [apF,apR]
 cases s.get id with
 | none=>rfl
 | some o=>
   cases o with
   | cells a m cs=>simp only [Nat.beq_refl,Bool.and_true,Nat.zero_add,cond_true]
   | _=>rfl
theorem yH {s:Sto} {id g len k by_ n:Nat} {cs new:List AV} (a:cs.length=len*k) (b:new.length=n*k) (c:(2*(len+n)+1024)*by_<=281474976710656/\len+n<4611686018427387904):
 apR s (some (aQ g cs)) id g len k by_ n new=some (.val' (.sl id (g+1) 0 (len+n) (.room k)) (s.put id (aQ (g+1) (cs++new)))):=by
 simp only [apR,aQ,Nat.beq_refl,a,uU c,Bool.and_self,cond_true];have:=Tr.lay_append cs new .leaf 0;rw [Nat.zero_add,a]at this;rw [this,List.length_append,a,b]
end
end Go.Abs
/-
 The abstract machine: the rules of operations,together;slices that stay as they are.
-/
namespace Go.Abs
noncomputable section
theorem wop:(∀ {P:Program} {s:Sto} {t:TypeId} {id g off:Nat},fE P s t (.ptr id g off)=tyC (tyK P t) (s.get id) g off (MJ P s t (.ptr id g off)))/\(∀ {x:Option Nat} {o:Option AObj} {g off:Nat} {d:Option AV},tyC (some x) o g off d=ldK (some x) o g off)/\(∀ {P:Program} {s:Sto} {t:TypeId} {id g off:Nat} {v:AV},mD P s t (.ptr id g off) v=stC (tyK P t) s id g off v (s.get id) (YK P s t (.ptr id g off) v))/\(∀ {x:Option Nat} {s:Sto} {id g off:Nat} {v:AV} {o:Option AObj} {d:Option Sto},stC (some x) s id g off v o d=stK s (some x) id g off v o)/\(∀ {P:Program} {s:Sto} {t:TypeId} {v:AV},fE P s t (.pf v)=pfC (tyK P t) v (MJ P s t (.pf v)))/\(∀ {v:AV} {d:Option AV},v.isCell=true->pfC (some none) v d=some v)/\(∀ {cs:List AV} {k:Nat} {d:Option AV},cs.length=k->pfC (some (some k)) (.agg cs) d=some (.agg cs))/\(∀ {P:Program} {t:TypeId} {id g o f:Nat},bV P t (.ptr id g o) f=aQx (bI P t f) id g o (oJ P t (.ptr id g o) f))/\(∀ {off:Nat} {y:Option Nat} {id g o:Nat} {d:Option AV},aQx (some (off,y)) id g o d=some (.ptr id g (o+off)))/\(∀ {P:Program} {t:TypeId} {cs:List AV} {f:Nat},bV P t (.pf (.agg cs)) f=rE (bI P t f) cs (oJ P t (.pf (.agg cs)) f))/\(∀ {P:Program} {s:Sto} {t:TypeId} {v:AV},aY P s .len [t].toArray [v]=HC (gT P t) s v (qC P s .len [t].toArray [v]))/\(∀ {s:Sto} {l:List Nat} {d:Option ORes},HC (some 0) s (.str l) d=some (.val (.int .i64 (l.length:Nat))))/\(∀ {s:Sto} {d:Option ORes},HC (some 1) s .nils d=some (.val (.int .i64 0)))/\(∀ {s:Sto} {i g o n:Nat} {c:ACap} {d:Option ORes},HC (some 1) s (.sl i g o n c) d=some (.val (.int .i64 (n:Nat))))/\(∀ {P:Program} {t:TypeId} {l:List Nat} {v:AV},rW P t (.str l) v=ML (gT P t) l v (YO P t (.str l) v))/\(∀ {P:Program} {t:TypeId} {id g off len:Nat} {c:ACap} {v:AV},bW P t (.sl id g off len c) v=aBz (qD P t) id g off len v (fJ P t (.sl id g off len c) v))/\(∀ {k id g off len:Nat} {q:IntKind} {i:Int} {d:Option AV},0<=i->i<len->aBz (some k) id g off len (.int q i) d=some (.ptr id g (off+i.toNat*k)))/\(∀ {P:Program} {t:TypeId} {id g off:Nat} {v:AV},bW P t (.ptr id g off) v=aCa (arK P t) id g off v (fJ P t (.ptr id g off) v))/\(∀ {n id g off:Nat} {k:Option Nat} {q:IntKind} {i:Int} {d:Option AV},0<=i->i<n->aCa (some (n,k)) id g off (.int q i) d=some (.ptr id g (off+i.toNat*jS k)))/\(∀ {P:Program} {t:TypeId} {l:List Nat} {lo h:Option AV},dQ P t (.str l) lo h none=QC (gT P t) l lo h (yF P t (.str l) lo h none))/\(∀ {P:Program} {t:TypeId} {a:List (Nat × AV)},pI P t a=bdC (rF P t) a (YR P t a))/\(∀ {z:List AV} {ps:List (Nat × Nat)} {a:List (Nat × AV)} {d:Option AV},bdC (some (.struct z ps)) a d=(fK (fun i=>ps[i]?) z a).map .agg)/\(∀ {b:Nat->Option (Nat × Nat)} {cells:List AV},fK b cells []=some cells)/\(∀ {b:Nat->Option (Nat × Nat)} {i:Nat} {v:AV} {cells:List AV} {rest:List (Nat × AV)},fK b cells ((i,v)::rest)=eE b (b i) v cells rest)/\(∀ {b:Nat->Option (Nat × Nat)} {off:Nat} {v:AV} {cells:List AV} {rest:List (Nat × AV)},v.isCell=true->off<cells.length->eE b (some (off,1)) v cells rest=fK b (cells.set off v) rest)/\(∀ {b:Nat->Option (Nat × Nat)} {off n:Nat} {vs cells:List AV} {rest:List (Nat × AV)},vs.length=n->vs.all AV.isCell=true->off+n<=cells.length->eE b (some (off,n)) (.agg vs) cells rest=fK b (cA cells off vs) rest)/\(∀ {P:Program} {O:cH} {t:TypeId} {len:Nat} {a:Array (Nat × Operand)} {e:Env} {K:ORes->Prop},fW P O (.buildSlice t len a) e K↔bsC (FI P t) len (a.toList.map fun p=>(p.1,e.eval p.2)) e.s K (aUr P O (.buildSlice t len a) e K))/\(∀ {k:Nat} {z:List AV} {len:Nat} {a:List (Nat × AV)} {s:Sto} {K:ORes->Prop} {d:Prop},bsC (some (k,z)) len a s K d=(len*k<=16777216/\bsF (fK (fun i=>some (i*k,k)) (cQ z len) a) len s K))/\(∀ {cs:List AV} {len:Nat} {s:Sto} {K:ORes->Prop},bsF (some cs) len s K↔cs.all AV.isCell=true/\K (.val' (.sl s.n 0 0 len (.is len)) (s.push (ob cs))))/\(∀ {z:List AV},cQ z 0=[])/\(∀ {z:List AV} {n:Nat},cQ z (n+1)=z++cQ z n)/\(∀ {P:Program} {s:Sto} {t u:TypeId} {x y:AV},aY P s .append [t,u].toArray [x,y]=apC (CX P t u) s x y (qC P s .append [t,u].toArray [x,y]))/\(∀ {k by_:Nat} {s:Sto} {v y:AV} {d:Option ORes},apC (some (k,by_)) s v y d=apF s k by_ v (QF s k y))/\(∀ {s:Sto} {k id g off len:Nat} {c:ACap},QF s k (.sl id g off len c)=apO (s.get id) g off (len*k) len)/\(∀ {g off m n:Nat} {cs:List AV},off+m<=cs.length->(bJ cs off m).all AV.isCell=true->apO (some (aQ g cs)) g off m n=some (n,bJ cs off m))/\(∀ {cs:List AV} {m:Nat},m=cs.length->bJ cs 0 m=cs)/\(∀ {s:Sto} {k by_ n:Nat} {new:List AV},n≠0->((2*n+1024)*by_<=281474976710656/\n<4611686018427387904)->new.all AV.isCell=true->apF s k by_ .nils (some (n,new))=some (.val' (.sl s.n 0 0 n (.room k)) (s.push (ob new))))/\(∀ {s:Sto} {k by_ id g len n:Nat} {new:List AV},apF s k by_ (.sl id g 0 len (.room k)) (some (n,new))=apR s (s.get id) id g len k by_ n new)/\(∀ {s:Sto} {id g len k by_ n:Nat} {cs new:List AV},cs.length=len*k->new.length=n*k->((2*(len+n)+1024)*by_<=281474976710656/\len+n<4611686018427387904)->apR s (some (aQ g cs)) id g len k by_ n new=some (.val' (.sl id (g+1) 0 (len+n) (.room k)) (s.put id (aQ (g+1) (cs++new))))):=
 ⟨aNi,rfl,aIc,rfl,aBy,YL,YM,MK,rfl,FD,aQy,rfl,rfl,rfl,aIf,FF,aNj,CF,aNk,QD,aIg,rfl,rfl,VA,aCb,aCc,FJ,rfl,aIh,rfl,rfl,aIi,rfl,aRa,aNl,FK,yG,tS,yH⟩
def Sl (a:AV) (xs:List AV):Prop:=(a=.nils/\xs=[]∨∃ c,a=.fz xs c)/\xs.length<=9223372036854775807
theorem Sl.cell {a:AV} {xs:List AV} (h:Sl a xs):a.isCell=true:=by
 rcases h.1 with ⟨rfl,_⟩ | ⟨c,rfl⟩<;>rfl
theorem Sl.len {a:AV} {xs:List AV} (h:Sl a xs) {s:Sto} {d:Option ORes}:HC (some 1) s a d=some (.val (.int .i64 (xs.length:Nat))):=by
 rcases h.1 with ⟨rfl,rfl⟩ | ⟨c,rfl⟩<;>rfl
theorem Sl.idx {a:AV} {xs:List AV} (h:Sl a xs) {P:Program} {t:TypeId} {v:AV}:bW P t a v=wY (qD P t) xs v (fJ P t a v):=by
 rcases h.1 with ⟨rfl,rfl⟩ | ⟨c,rfl⟩
 ·cases e:qD P t with
  | none=>rfl
  | some k=>
    have b:wY (some k) [] v (fJ P t .nils v)=none:=by
     simp only [wY,List.length_nil];cases rV v 0<;>rfl
    rw [b];simp only [bW]
    cases P.underlying t with
    | none=>rfl
    | some d=>cases d<;>rfl
 ·exact FE
theorem pD {n:Nat} {a:AV} {xs:List AV} (h:Sl a xs) (b:∀ x∈xs,UnderE n x):UnderE n a:=by
 rcases h.1 with ⟨rfl,_⟩ | ⟨c,rfl⟩
 ·exact ⟨1,rfl⟩
 ·exact aCf b
end
end Go.Abs
