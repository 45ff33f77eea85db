/-
  The abstract machine: operations by facts on types that a program's own text gives.
-/
import Derived.Test.YtginbapbkjhnjaaGreatEf
set_option linter.unusedVariables false
set_option linter.unusedSimpArgs false
namespace Go.Abs
noncomputable section
variable {P:Program}
def DL:=@dV
def OA:=@jK
def tyC (x:Option (Option Nat)) (o:Option AObj) (g off:Nat) (d:Option AV):Option AV:=match x with
 | some x=>ldK (some x) o g off
 | none=>d
theorem aBd {s:Sto} {t:TypeId} {id g off:Nat}:dV P s t (.ptr id g off)=tyC (tyK P t) (s.get id) g off (DL P s t (.ptr id g off)):=by
 cases h:tyK P t with
 | none=>rfl
 | some x=>rw [QY h];rfl
def stC (x:Option (Option Nat)) (s:Sto) (id g off:Nat) (v:AV) (o:Option AObj) (d:Option Sto):Option Sto:=match x with
 | some x=>stK s (some x) id g off v o
 | none=>d
theorem WE {s:Sto} {t:TypeId} {id g off:Nat} {v:AV}:jK P s t (.ptr id g off) v=stC (tyK P t) s id g off v (s.get id) (OA P s t (.ptr id g off) v):=by
 cases h:tyK P t with
 | none=>rfl
 | some x=>rw [LE h];rfl
def QL (x:Option (Option Nat)) (v:AV) (d:Option AV):Option AV:=match x with
 | some none=>bif v.isCell then some v else none
 | some (some k)=>(match v with
   | .agg cs=>bif Nat.beq cs.length k then some (.agg cs) else none
   | _=>none)
 | none=>d
theorem QM {s:Sto} {t:TypeId} {v:AV}:dV P s t (.pf v)=QL (tyK P t) v (DL P s t (.pf v)):=by
 cases h:tyK P t with
 | none=>rfl
 | some x=>
   obtain ⟨h1,h2⟩:=nS h
   cases x with
   | none=>simp only [dV,h1,h2,QL,iD,Option.isSome]
   | some k=>
     simp only [dV,h1,h2,QL,iD,Option.isSome]
     cases v<;>rfl
theorem OB {v:AV} {d:Option AV} (h:v.isCell=true):QL (some none) v d=some v:=by simp [QL,h]
theorem OC {cs:List AV} {k:Nat} {d:Option AV} (h:cs.length=k):QL (some (some k)) (.agg cs) d=some (.agg cs):=by simp [QL,h]
def lF:=@bJ
def OD:=@mB
def aFj (x:Option (Nat × Option Nat)) (id g o:Nat) (d:Option AV):Option AV:=match x with
 | some (off,_)=>some (.ptr id g (o+off))
 | none=>d
theorem DM {t:TypeId} {id g o f:Nat}:bJ P t (.ptr id g o) f=aFj (aZ P t f) id g o (lF P t (.ptr id g o) f):=by
 cases h:aZ P t f with
 | none=>rfl
 | some x=>obtain ⟨off,y⟩:=x;rw [yV h];rfl
def aFk (x:Option (Nat × Option Nat)) (cs:List AV) (d:Option AV):Option AV:=match x with
 | some (off,y)=>YX y cs off
 | none=>d
theorem WF {t:TypeId} {cs:List AV} {f:Nat}:mB P t (.agg cs) f=aFk (aZ P t f) cs (OD P t (.agg cs) f):=by
 cases h:aZ P t f with
 | none=>rfl
 | some x=>obtain ⟨off,y⟩:=x;rw [LG h];rfl
theorem aBe {cs:List AV} {off n:Nat} (h:off+n<=cs.length):YX (some n) cs off=some (.agg (aV cs off n)):=by
 have:Nat.ble (off+n) cs.length=true:=by simpa using h
 simp [YX,this]
def nO (x:Option (Nat × Option Nat)) (cs:List AV) (d:Option AV):Option AV:=match x with
 | some (off,none)=>(match cs[off]? with
   | some v=>bif v.isCell then some (.pf v) else none
   | none=>none)
 | some (off,some n)=>bif Nat.ble (off+n) cs.length then some (.pf (.agg (aV cs off n))) else none
 | none=>d
theorem yL {t:TypeId} {cs:List AV} {f:Nat}:bJ P t (.pf (.agg cs)) f=nO (aZ P t f) cs (lF P t (.pf (.agg cs)) f):=by
 cases h:aZ P t f with
 | none=>rfl
 | some x=>
   obtain ⟨off,y⟩:=x
   unfold aZ at h
   split at h
   ·rename_i fields hu
    split at h
    ·rename_i fd hfd
     split at h
     ·rename_i z hz
      split at h
      ·cases h
      ·rename_i hne
       simp only [Option.some.injEq,Prod.mk.injEq]at h
       obtain ⟨rfl,rfl⟩:=h
       obtain ⟨h1,h2⟩:=nS hz
       have:∃ m,iD z=m+1:=by
        cases z with
        | none=>exact ⟨0,rfl⟩
        | some n=>cases n with
          | zero=>exact absurd rfl hne
          | succ m=>exact ⟨m,rfl⟩
       obtain ⟨m,hm⟩:=this
       rw [hm]at h1
       cases z with
       | none=>
         have h2':wG P fd.type=some false:=h2
         simp only [bJ,hu,hfd,h1,qU,uS hz,YX,h2',nO]
         cases cs[fd.offset]?<;>rfl
       | some n=>
         have h2':wG P fd.type=some true:=h2
         simp only [bJ,hu,hfd,h1,qU,uS hz,YX,h2',nO]
         cases Nat.ble (fd.offset+n) cs.length<;>rfl
     ·cases h
    ·cases h
   ·cases h
theorem WH {off:Nat} {cs:List AV} {d:Option AV} {v:AV} (h:cs[off]?=some v) (hc:v.isCell=true):nO (some (off,none)) cs d=some (.pf v):=by simp [nO,h,hc]
theorem WI {off n:Nat} {cs:List AV} {d:Option AV} (h:off+n<=cs.length):nO (some (off,some n)) cs d=some (.pf (.agg (aV cs off n))):=by
 have:Nat.ble (off+n) cs.length=true:=by simpa using h
 simp [nO,this]
def eO (P:Program) (t:TypeId):Option Nat:=match P.underlying t with
 | some .string=>some 0
 | some (.slice _)=>some 1
 | some (.map _ _)=>some 2
 | some (.array n _)=>some (3+n)
 | _=>none
def qG:=@aW
def tC (x:Option Nat) (s:Sto) (v:AV) (d:Option ORes):Option ORes:=match x with
 | some 0=>(match v with
   | .str l=>some (.val (.int .i64 (l.length:Nat)))
   | _=>none)
 | some 1=>(match v with
   | .str _=>none
   | v=>(match mW v with
     | some n=>some (.val (.int .i64 (n:Nat)))
     | none=>none))
 | some 2=>(match v with
   | .nilm=>some (.val (.int .i64 0))
   | .map id=>(match s.get id with
     | some (.map es _)=>some (.val (.int .i64 (es.length:Nat)))
     | _=>none)
   | _=>none)
 | some (n+3)=>some (.val (.int .i64 (n:Nat)))
 | none=>d
theorem aFl {s:Sto} {t:TypeId} {v:AV}:aW P s .len [t].toArray [v]=tC (eO P t) s v (qG P s .len [t].toArray [v]):=by
 have h0:([t].toArray)[0]?=some t:=rfl
 cases h:eO P t with
 | none=>rfl
 | some x=>
   unfold eO at h
   simp only [aW,h0]
   cases hu:P.underlying t with
   | none=>rw [hu]at h;cases h
   | some d=>
     rw [hu]at h
     cases d with
     | string=>simp only [Option.some.injEq]at h;subst h;cases v<;>rfl
     | slice e=>simp only [Option.some.injEq]at h;subst h;cases v<;>rfl
     | map k e=>simp only [Option.some.injEq]at h;subst h;cases v<;>rfl
     | array n e=>
       simp only [Option.some.injEq]at h
       subst h
       rw [show 3+n=n+3 by omega]
       cases v<;>rfl
     | _=>cases h
theorem wW {k:IntKind} {i:Int} {n:Nat} (h0:0<=i) (h1:i<n):oD (.int k i) n=some i.toNat:=by
 obtain ⟨m,rfl⟩:=Int.eq_ofNat_of_zero_le h0
 have:Nat.blt m n=true:=by simp;omega
 show (bif Nat.blt m n then some m else none)=_
 rw [this];rfl
theorem kJ {d n:Nat}:dJ none d n=some d:=rfl
theorem jS {k:IntKind} {i:Int} {d n:Nat} (h0:0<=i) (h1:i<=n):dJ (some (.int k i)) d n=some i.toNat:=by
 obtain ⟨m,rfl⟩:=Int.eq_ofNat_of_zero_le h0
 have:Nat.ble m n=true:=by simp;omega
 show (bif Nat.ble m n then some m else none)=_
 rw [this];rfl
def OE:=@oE
def eC:=@bK
def zV (x:Option Nat) (l:List Nat) (v:AV) (d:Option AV):Option AV:=match x with
 | some 0=>(match oD v l.length with
   | some i=>some (.int .u8 ((l.getD i 0:Nat):Int))
   | none=>none)
 | _=>d
theorem WJ {t:TypeId} {l:List Nat} {v:AV}:oE P t (.str l) v=zV (eO P t) l v (OE P t (.str l) v):=by
 unfold eO
 cases hu:P.underlying t with
 | none=>rfl
 | some d=>
   cases d<;>try rfl
   rotate_left
   ·show _=zV (some (3+_)) l v _
    rw [Nat.add_comm 3]
    rfl
   simp only [oE,hu,zV]
   cases hi:oD v l.length with
   | none=>rfl
   | some i=>
     simp only
     have:i<l.length:=by
      unfold oD at hi
      split at hi
      ·rename_i j
       cases hb:Nat.blt j l.length with
       | true=>rw [hb]at hi;simp at hi;subst hi;simpa using hb
       | false=>rw [hb]at hi;cases hi
      ·cases hi
     rw [List.getElem?_eq_getElem this]
     simp [List.getD_eq_getElem?_getD,this]
theorem wX {l:List Nat} {k:IntKind} {i:Int} {d:Option AV} (h0:0<=i) (h1:i<l.length):zV (some 0) l (.int k i) d=some (.int .u8 ((l.getD i.toNat 0:Nat):Int)):=by
 simp only [zV,wW h0 h1]
def rW (x:Option Nat) (l:List AV) (v:AV) (d:Option AV):Option AV:=match x with
 | some k=>(match oD v l.length with
   | some i=>(match l[i]? with
     | some a=>bif Nat.beq a.cells.length k then some (.pf a) else none
     | none=>none)
   | none=>none)
 | none=>d
theorem pM {t:TypeId} {l:List AV} {c:Bool} {v:AV}:bK P t (.fz l c) v=rW (nR P t) l v (eC P t (.fz l c) v):=by
 cases h:nR P t with
 | none=>rfl
 | some k=>
   unfold nR at h
   split at h
   ·rename_i e hu
    simp only [bK,hu,h,rW]
    cases oD v l.length<;>rfl
   ·cases h
theorem OF {k:Nat} {l:List AV} {q:IntKind} {i:Int} {d:Option AV} {a:AV} (h0:0<=i) (h1:i<l.length) (ha:l[i.toNat]?=some a) (hk:a.cells.length=k):rW (some k) l (.int q i) d=some (.pf a):=by
 have:Nat.beq a.cells.length k=true:=by rw [hk];exact Nat.beq_refl k
 simp only [rW,wW h0 h1,ha,this,cond_true]
def QN (x:Option Nat) (id g off len:Nat) (v:AV) (d:Option AV):Option AV:=match x with
 | some k=>(match oD v len with
   | some i=>some (.ptr id g (off+i*k))
   | none=>none)
 | none=>d
theorem yM {t:TypeId} {id g off len:Nat} {c:ACap} {v:AV}:bK P t (.sl id g off len c) v=QN (nR P t) id g off len v (eC P t (.sl id g off len c) v):=by
 cases h:nR P t with
 | none=>rfl
 | some k=>
   unfold nR at h
   split at h
   ·rename_i e hu
    simp only [bK,hu,h,QN]
    cases oD v len<;>rfl
   ·cases h
theorem aBf {k id g off len:Nat} {q:IntKind} {i:Int} {d:Option AV} (h0:0<=i) (h1:i<len):QN (some k) id g off len (.int q i) d=some (.ptr id g (off+i.toNat*k)):=by
 simp only [QN,wW h0 h1]
def QO (x:Option (Nat × Option Nat)) (id g off:Nat) (v:AV) (d:Option AV):Option AV:=match x with
 | some (n,k)=>(match oD v n with
   | some i=>some (.ptr id g (off+i*iD k))
   | none=>none)
 | none=>d
theorem wF {t:TypeId} {id g off:Nat} {v:AV}:bK P t (.ptr id g off) v=QO (HA P t) id g off v (eC P t (.ptr id g off) v):=by
 cases h:HA P t with
 | none=>rfl
 | some x=>
   obtain ⟨n,k⟩:=x
   unfold HA at h
   split at h
   ·rename_i m e hu
    cases ht:tyK P e with
    | none=>rw [ht]at h;cases h
    | some y=>
      rw [ht]at h
      simp only [Option.map_some,Option.some.injEq,Prod.mk.injEq]at h
      obtain ⟨rfl,rfl⟩:=h
      obtain ⟨h1,h2⟩:=nS ht
      simp only [bK,hu,h1,QO]
      cases oD v m<;>rfl
   ·cases h
theorem aBg {n id g off:Nat} {k:Option Nat} {q:IntKind} {i:Int} {d:Option AV} (h0:0<=i) (h1:i<n):QO (some (n,k)) id g off (.int q i) d=some (.ptr id g (off+i.toNat*iD k)):=by
 simp only [QO,wW h0 h1]
def qH:=@eP
def rX (x:Option Nat) (l:List Nat) (lo hi:Option AV) (d:Option AV):Option AV:=match x with
 | some 0=>(match dJ hi l.length l.length with
   | some h=>(match dJ lo 0 h with
     | some i=>some (.str (aV l i (h-i)))
     | none=>none)
   | none=>none)
 | _=>d
theorem GN {t:TypeId} {l:List Nat} {lo hi:Option AV}:eP P t (.str l) lo hi none=rX (eO P t) l lo hi (qH P t (.str l) lo hi none):=by
 unfold eO
 cases hu:P.underlying t with
 | none=>rfl
 | some d=>
   cases d<;>try rfl
   rotate_left
   ·show _=rX (some (3+_)) l lo hi _
    rw [Nat.add_comm 3]
    rfl
   simp only [eP,hu,rX]
   cases dJ hi l.length l.length with
   | none=>rfl
   | some h=>cases dJ lo 0 h<;>rfl
theorem QP {l:List Nat} {j k:IntKind} {a b:Int} {d:Option AV} (h0:0<=a) (h1:a<=b) (h2:b<=l.length):rX (some 0) l (some (.int j a)) (some (.int k b)) d=some (.str (aV l a.toNat (b.toNat-a.toNat))):=by
 simp only [rX,jS (show 0<=b by omega) h2,jS h0 (show a<=(b.toNat:Int) by omega)]
theorem DN {l:List Nat} {j:IntKind} {a:Int} {d:Option AV} (h0:0<=a) (h1:a<=l.length):rX (some 0) l (some (.int j a)) none d=some (.str (l.drop a.toNat)):=by
 simp only [rX,kJ,jS h0 h1]
 simp only [aV]
 rw [List.take_of_length_le (by simp)]
theorem aBh {l:List Nat} {k:IntKind} {b:Int} {d:Option AV} (h0:0<=b) (h2:b<=l.length):rX (some 0) l none (some (.int k b)) d=some (.str (l.take b.toNat)):=by
 simp only [rX,jS h0 h2,kJ,aV,List.drop_zero,Nat.sub_zero]
def aBi (x:Option Nat) (v:AV) (lo hi mx:Option AV) (d:Option AV):Option AV:=match x with
 | some k=>lL k v lo hi mx
 | none=>d
theorem yN {t:TypeId} {l:List AV} {c:Bool} {lo hi mx:Option AV}:eP P t (.fz l c) lo hi mx=aBi (nR P t) (.fz l c) lo hi mx (qH P t (.fz l c) lo hi mx):=by
 cases h:nR P t with
 | none=>rfl
 | some k=>
   unfold nR at h
   split at h
   ·rename_i e hu;simp only [eP,hu,h,aBi]
   ·cases h
theorem vT {t:TypeId} {lo hi mx:Option AV}:eP P t .nils lo hi mx=aBi (nR P t) .nils lo hi mx (qH P t .nils lo hi mx):=by
 cases h:nR P t with
 | none=>rfl
 | some k=>
   unfold nR at h
   split at h
   ·rename_i e hu;simp only [eP,hu,h,aBi]
   ·cases h
inductive CvK where
 | int (k:IntKind)
 | str
 | bytes
 | ofBytes
def IT (P:Program) (src dst:TypeId):Option CvK:=match P.underlying src,P.underlying dst with
 | some (.int _),some (.int k)=>some (.int k)
 | some .string,some .string=>some .str
 | some .string,some (.slice e)=>(match P.underlying e with
   | some (.int .u8)=>some .bytes
   | _=>none)
 | some (.slice e),some .string=>(match P.underlying e with
   | some (.int .u8)=>some .ofBytes
   | _=>none)
 | _,_=>none
def WK:=@gP
def WL (x:Option CvK) (s:Sto) (v:AV) (d:Option ORes):Option ORes:=match x,v with
 | some (.int k),.int _ n=>some (.val (.int k (k.wrap n)))
 | some .str,.str l=>some (.val (.str l))
 | some .bytes,.str l=>some (.val' (.sl s.n 0 0 l.length (.room 1)) (s.push (ob (eI l))))
 | some .ofBytes,.str l=>some (.val (.str l))
 | some .ofBytes,v=>(match mW v with
   | some n=>(match dC s 1 n v with
     | some l=>(match Go.Abs.ofBytes l with
       | some b=>some (.val (.str b))
       | none=>none)
     | none=>none)
   | none=>none)
 | _,_=>d
theorem tE (l:List Nat):(eI l).all AV.isCell=true:=by simp [eI,AV.isCell]
theorem aBj {s:Sto} {src dst:TypeId} {v:AV}:gP P s src dst v=WL (IT P src dst) s v (WK P s src dst v):=by
 cases h:IT P src dst with
 | none=>cases v<;>rfl
 | some x=>
   unfold IT at h
   split at h
   ·rename_i k0 k h1 h2
    cases h
    cases v<;>first | rfl | (simp only [gP,h1,h2,WL,dU])
   ·rename_i h1 h2
    cases h
    cases v<;>first | rfl | (simp only [gP,h1,h2,WL])
   ·rename_i e h1 h2
    split at h
    ·rename_i h3
     cases h
     cases v<;>first | rfl | (simp only [gP,h1,h2,h3,WL,nV,tE,if_true])
    ·cases h
   ·rename_i e h1 h2
    split at h
    ·rename_i h3
     cases h
     cases v<;>first | rfl | (simp only [gP,h1,h2,h3,mW,WL];done) | (simp only [gP,h1,h2,h3,mW,WL];rfl) | (simp only [gP,h1,h2,h3,mW,WL];generalize dC s 1 _ _=q;cases q with | none=>rfl | some l=>rfl)
    ·cases h
   ·cases h
end
end Go.Abs
/-
 The abstract machine: what builds and what appends.
-/
namespace Go.Abs
noncomputable section
variable {P:Program} {O:Orc}
def tF (place:Nat->Option (Nat × Nat)) (p:Option (Nat × Nat)) (v:AV) (cells:List AV) (rest:List (Nat × AV)):Option (List AV):=match p with
 | none=>none
 | some (off,size)=>bif Nat.beq v.cells.length size&&Nat.ble (off+size) cells.length&&v.cells.all AV.isCell then dW place (bM cells off v.cells) rest else none
theorem KW {place:Nat->Option (Nat × Nat)} {i:Nat} {v:AV} {cells:List AV} {rest:List (Nat × AV)}:dW place cells ((i,v)::rest)=tF place (place i) v cells rest:=by
 simp only [dW,tF]
 cases place i with
 | none=>rfl
 | some p=>
   obtain ⟨off,size⟩:=p
   simp only
   cases h:(Nat.beq v.cells.length size&&Nat.ble (off+size) cells.length&&v.cells.all AV.isCell) with
   | false=>rfl
   | true=>
     simp only [Bool.and_eq_true]at h
     have:=Nat.eq_of_beq_eq_true h.1.1
     simp only [cond_true,bM,this]
theorem QQ {place:Nat->Option (Nat × Nat)} {off:Nat} {v:AV} {cells:List AV} {rest:List (Nat × AV)} (hc:v.isCell=true) (hl:off<cells.length):tF place (some (off,1)) v cells rest=dW place (cells.set off v) rest:=by
 have hv:v.cells=[v]:=by cases v<;>first | rfl | cases hc
 have e1:Nat.ble (off+1) cells.length=true:=by simp;omega
 simp only [tF,hv,List.length_cons,List.length_nil,Nat.zero_add,Nat.beq_refl,e1,List.all_cons,hc,List.all_nil,Bool.and_self,cond_true,nT hl]
theorem QR {place:Nat->Option (Nat × Nat)} {off n:Nat} {vs cells:List AV} {rest:List (Nat × AV)} (hn:vs.length=n) (hc:vs.all AV.isCell=true) (hl:off+n<=cells.length):tF place (some (off,n)) (.agg vs) cells rest=dW place (bM cells off vs) rest:=by
 subst hn
 have e1:Nat.ble (off+vs.length) cells.length=true:=by simpa using hl
 simp only [tF,AV.cells,Nat.beq_refl,e1,hc,Bool.and_self,cond_true]
inductive BdK where
 | struct (z:List AV) (ps:List (Nat × Nat))
 | array (z:List AV) (k:Nat)
def kK (P:Program) (t:TypeId):Option BdK:=match aU P t,P.underlying t with
 | some z,some (.struct fields)=>(oC P fields.toList).map fun ps=>.struct z.cells ps
 | some z,some (.array _ elem)=>(oN P elem).map fun k=>.array z.cells k
 | _,_=>none
def OG:=@mA
def bdC (x:Option BdK) (parts:List (Nat × AV)) (d:Option AV):Option AV:=match x with
 | some (.struct z ps)=>(dW (fun i=>ps[i]?) z parts).map .agg
 | some (.array z k)=>(dW (fun i=>some (i*k,k)) z parts).map .agg
 | none=>d
theorem WM {t:TypeId} {parts:List (Nat × AV)}:mA P t parts=bdC (kK P t) parts (OG P t parts):=by
 cases h:kK P t with
 | none=>rfl
 | some x=>
   unfold kK at h
   split at h
   ·rename_i z fields h1 h2
    cases hp:oC P fields.toList with
    | none=>rw [hp]at h;cases h
    | some ps=>
      rw [hp]at h
      simp only [Option.map_some,Option.some.injEq]at h
      subst h
      simp only [mA,h1,h2,hp,bdC]
      cases dW (fun i=>ps[i]?) z.cells parts<;>rfl
   ·rename_i z n elem h1 h2
    cases hp:oN P elem with
    | none=>rw [hp]at h;cases h
    | some k=>
      rw [hp]at h
      simp only [Option.map_some,Option.some.injEq]at h
      subst h
      simp only [mA,h1,h2,hp,bdC]
      cases dW (fun i=>some (i*k,k)) z.cells parts<;>rfl
   ·cases h
def wY (P:Program) (t:TypeId):Option (Nat × List AV):=match P.underlying t with
 | some (.slice el)=>(match oN P el,aU P el with
   | some k,some z=>bif Nat.beq z.cells.length k&&Nat.blt 0 k then some (k,z.cells) else none
   | _,_=>none)
 | _=>none
def bsF (o:Option (List AV)) (len:Nat) (s:Sto) (K:ORes->Prop):Prop:=∃ cs,o=some cs/\cs.all AV.isCell=true/\K (.val' (.sl s.n 0 0 len (.is len)) (s.push (ob cs)))
@[congr] theorem aGt {o o':Option (List AV)} {len:Nat} {s s':Sto} {K:ORes->Prop} (h:o=o') (h':s=s'):bsF o len s K=bsF o' len s' K:=by rw [h,h']
theorem WN {cs:List AV} {len:Nat} {s:Sto} {K:ORes->Prop}:bsF (some cs) len s K↔cs.all AV.isCell=true/\K (.val' (.sl s.n 0 0 len (.is len)) (s.push (ob cs))):=by simp [bsF]
def bsC (x:Option (Nat × List AV)) (len:Nat) (parts:List (Nat × AV)) (s:Sto) (K:ORes->Prop) (d:Prop):Prop:=match x with
 | some (k,z)=>len*k<=16777216/\bsF (dW (fun i=>some (i*k,k)) (cY z len) parts) len s K
 | none=>d
def aIj:=@dA
theorem vU {z:List AV}:∀ n:Nat,(cY z n).length=n*z.length
 | 0=>by simp [cY]
 | n+1=>by simp only [cY,List.length_append,vU n,Nat.succ_mul];omega
theorem yO {t:TypeId} {len:Nat} {parts:Array (Nat × Operand)} {e:Env} {K:ORes->Prop}:
 dA P O (.buildSlice t len parts) e K↔bsC (wY P t) len (parts.toList.map fun p=>(p.1,e.eval p.2)) e.s K (aIj P O (.buildSlice t len parts) e K):=by
 cases h:wY P t with
 | none=>exact .rfl
 | some x=>
   obtain ⟨k,z⟩:=x
   unfold wY at h
   split at h
   ·rename_i el hu
    split at h
    ·rename_i k' z' h1 h2
     cases hb:(Nat.beq z'.cells.length k'&&Nat.blt 0 k') with
     | false=>rw [hb]at h;cases h
     | true=>
       rw [hb]at h
       simp only [cond_true,Option.some.injEq,Prod.mk.injEq]at h
       obtain ⟨rfl,rfl⟩:=h
       simp only [Bool.and_eq_true,Nat.blt_eq]at hb
       have hk:=Nat.eq_of_beq_eq_true hb.1
       have hr:∀ call,dN P call (.buildSlice t len parts) e=if len*k'<=16777216 then (match dW (fun i=>some (i*k',k')) (cY z'.cells len) (parts.toList.map fun p=>(p.1,e.eval p.2)) with
        | some cs=>if cs.all AV.isCell=true then some (.val' (.sl e.s.n 0 0 len (.is len)) (e.s.push (ob cs))) else none
        | none=>none) else none:=by
        intro call
        simp only [dN,fR,hu,h1,h2]
        by_cases hle:len*k'<=16777216
        ·have e1:Nat.ble (len*k') (2 ^ 24)=true:=by simpa using hle
         rw [if_pos hle,e1]
         simp only [cond_true]
         have e2:(bif Nat.beq (len*k') 0 then some [] else some (cY z'.cells len))=some (cY z'.cells len):=by
          cases hz:Nat.beq (len*k') 0 with
          | false=>rfl
          | true=>
            have:=Nat.eq_of_beq_eq_true hz
            have hl:len=0:=by
             rcases Nat.mul_eq_zero.1 this with h | h
             ·exact h
             ·omega
            subst hl;rfl
         rw [e2]
         simp only [vU,hk,Nat.beq_refl,cond_true]
         cases dW (fun i=>some (i*k',k')) (cY z'.cells len) (parts.toList.map fun p=>(p.1,e.eval p.2)) with
         | none=>rfl
         | some cs=>
           simp only [nV]
           by_cases hc:cs.all AV.isCell=true
           ·rw [if_pos hc,if_pos hc]
           ·rw [if_neg hc,if_neg hc]
        ·have e1:Nat.ble (len*k') (2 ^ 24)=false:=by
          cases hb2:Nat.ble (len*k') (2 ^ 24) with
          | false=>rfl
          | true=>exact absurd (by simpa using hb2) hle
         rw [if_neg hle,e1];rfl
       rw [lW hr]
       simp only [bsC,bsF,oS]
       by_cases hle:len*k'<=16777216
       ·rw [if_pos hle]
        cases dW (fun i=>some (i*k',k')) (cY z'.cells len) (parts.toList.map fun p=>(p.1,e.eval p.2)) with
        | none=>simp
        | some cs=>
          by_cases hc:cs.all AV.isCell=true
          ·simp only [hc,if_true,Option.some.injEq,exists_eq_left',hle,true_and]
          ·simp only [hc,if_false,Option.some.injEq,exists_eq_left',hle,true_and,false_and,reduceCtorEq,exists_false,Bool.false_eq_true]
       ·rw [if_neg hle];simp [hle]
    ·cases h
   ·cases h
def wZ (P:Program) (t u:TypeId):Option (Nat × Nat):=match apK P t,P.underlying u with
 | some x,some (.slice _)=>some x
 | some x,some .string=>some x
 | _,_=>none
def AY (s:Sto) (k:Nat) (y:AV):Option (Nat × List AV):=match mW y with
 | none=>none
 | some n=>(match dC s k n y with
   | none=>none
   | some new=>bif new.all AV.isCell then some (n,new) else none)
def apF (s:Sto) (k by_:Nat) (x:AV) (y:Option (Nat × List AV)):Option ORes:=match y with
 | none=>none
 | some (n,new)=>(match x with
   | .nils=>bif Nat.beq n 0 then some (.val .nils) else fN s k by_ [] new n
   | .fz xs true=>bif Nat.beq n 0 then some (.val x) else (match dC s k xs.length x with
     | some old=>fN s k by_ old new (xs.length+n)
     | none=>none)
   | .sl id g off len (.is c)=>bif Nat.ble (len+n) c then
    (match s.get id with
    | some (.cells g' m cs)=>bif Nat.beq g g'&&Nat.ble (off+c*k) m then some (.val' (.sl id g off (len+n) (.is c)) (s.put id (.cells g' m (cs.lay (off+len*k) new)))) else none
    | _=>none)
     else (match dC s k len x with
      | some old=>fN s k by_ old new (len+n)
      | none=>none)
   | .sl id g off len (.room r)=>(match s.get id with
     | some (.cells g' m cs)=>bif Nat.beq g g'&&Nat.beq k r&&Nat.beq (off+len*k) m&&dX (len+n) by_ then
      bif Nat.beq off 0 then some (.val' (.sl id (g'+1) 0 (len+n) (.room k)) (s.put id (.cells (g'+1) (m+n*k) (cs.lay m new))))
      else (match cs.row off (len*k) with
      | some old=>some (.val' (.sl id (g'+1) 0 (len+n) (.room k)) (s.put id (.cells (g'+1) ((len+n)*k) (Tr.leaf.lay 0 (old++new)))))
      | none=>none)
       else none
     | _=>none)
   | .sl id g off len (.least r c)=>bif Nat.ble (len+n) c then
    (match s.get id with
    | some (.cells g' m cs)=>bif Nat.beq g g'&&Nat.beq k r&&Nat.ble (off+c*k) m then some (.val' (.sl id g off (len+n) (uZ k (len+n) c)) (s.put id (.cells g' m (cs.lay (off+len*k) new)))) else none
    | _=>none)
     else none
   | _=>none)
def apC (x:Option (Nat × Nat)) (s:Sto) (v y:AV) (d:Option ORes):Option ORes:=match x with
 | some (k,by_)=>apF s k by_ v (AY s k y)
 | none=>d
theorem WO {s:Sto} {t u:TypeId} {x y:AV}:aW P s .append [t,u].toArray [x,y]=apC (wZ P t u) s x y (qG P s .append [t,u].toArray [x,y]):=by
 cases h:wZ P t u with
 | none=>rfl
 | some q=>
   obtain ⟨k,by_⟩:=q
   have key:∀ d,P.underlying u=some d->(∀ j,d≠.int j)->apK P t=some (k,by_)->aW P s .append [t,u].toArray [x,y]=apF s k by_ x (AY s k y):=by
    intro d hu hd ha
    have h1:aW P s .append [t,u].toArray [x,y]=tZ P s t x y:=by
     simp only [aW,hu]
     try (cases d<;>first | rfl | exact absurd rfl (hd _))
    rw [h1]
    unfold apK at ha
    split at ha
    ·rename_i e he
     split at ha
     ·rename_i k' b' z a1 a2 a3
      cases hz:Nat.beq z.cells.length k' with
      | false=>rw [hz]at ha;cases ha
      | true=>
        rw [hz]at ha
        simp only [cond_true,Option.some.injEq,Prod.mk.injEq]at ha
        obtain ⟨rfl,rfl⟩:=ha
        simp only [tZ,he,a1,a2,a3,AY]
        cases mW y with
        | none=>rfl
        | some n=>
          simp only
          cases dC s k' n y with
          | none=>rfl
          | some new=>
            simp only [hz,Bool.true_and]
            cases new.all AV.isCell with
            | false=>rfl
            | true=>
              simp only [cond_true,apF]
              cases x with
              | sl id g off len c=>cases c<;>rfl
              | fz xs c=>cases c<;>rfl
              | _=>rfl
     ·cases ha
    ·cases ha
   unfold wZ at h
   split at h
   ·rename_i q e h1 h2;cases h;exact key _ h2 (by simp) h1
   ·rename_i q h1 h2;cases h;exact key _ h2 (by simp) h1
   ·cases h
def apO (o:Option AObj) (g off m:Nat) (n:Nat):Option (Nat × List AV):=match o with
 | some (.cells g' q c)=>bif Nat.beq g g'&&Nat.ble (off+m) q then (match c.row off m with
   | some l=>bif l.all AV.isCell then some (n,l) else none
   | none=>none) else none
 | _=>none
theorem aFm {s:Sto} {k id g off len:Nat} {c:ACap}:AY s k (.sl id g off len c)=apO (s.get id) g off (len*k) len:=by
 have:Nat.ble len len=true:=by simp
 simp only [AY,mW,dC,this,cond_true,apO]
 cases s.get id with
 | none=>rfl
 | some o=>
   cases o with
   | cells g' q cs=>
     simp only
     cases (Nat.beq g g'&&Nat.ble (off+len*k) q) with
     | false=>rfl
     | true=>
       simp only [cond_true]
       cases cs.row off (len*k)<;>rfl
   | _=>rfl
theorem aBk {g off m n:Nat} {cs:List AV} (h:off+m<=cs.length) (hc:(aV cs off m).all AV.isCell=true):apO (some (bB g cs)) g off m n=some (n,aV cs off m):=by
 have:Nat.ble (off+m) cs.length=true:=by simpa using h
 simp only [apO,bB,Nat.beq_refl,this,Bool.and_self,cond_true,Tr.row_lay _ _ _ h,hc]
theorem yP {cs:List AV} {m:Nat} (h:m=cs.length):aV cs 0 m=cs:=by subst h;simp [aV]
theorem WP {s:Sto} {k:Nat}:AY s k .nils=some (0,[]):=by simp [AY,mW,dC]
theorem aBl {s:Sto} {l:List Nat}:AY s 1 (.str l)=some (l.length,eI l):=by
 have:Nat.ble l.length l.length=true:=by simp
 simp only [AY,mW,dC,List.take_length,this,Nat.beq_refl,Bool.and_self,cond_true,tE]
theorem QS {s:Sto} {k n:Nat} {l:List AV} {c:Bool} (hn:n<=l.length) (hk:∀ x∈l,x.cells.length=k/\x.cells.all AV.isCell=true):dC s k n (.fz l c)=some ((l.take n).flatMap AV.cells):=by
 have h1:Nat.ble n l.length=true:=by simpa using hn
 have h2:((l.take n).all fun x=>Nat.beq x.cells.length k)=true:=List.all_eq_true.2 fun x hx=>by
  rw [(hk x (List.mem_of_mem_take hx)).1];exact Nat.beq_refl k
 have h3:((l.take n).flatMap AV.cells).all AV.isCell=true:=List.all_eq_true.2 fun y hy=>by
  obtain ⟨x,hx,hy⟩:=List.mem_flatMap.1 hy
  exact List.all_eq_true.1 (hk x (List.mem_of_mem_take hx)).2 y hy
 simp only [dC,h1,h2,h3,cond_true,Bool.and_self]
theorem rY {s:Sto} {k:Nat} {l:List AV} {c:Bool} (hk:∀ x∈l,x.cells.length=k/\x.cells.all AV.isCell=true):AY s k (.fz l c)=some (l.length,l.flatMap AV.cells):=by
 have h3:(l.flatMap AV.cells).all AV.isCell=true:=List.all_eq_true.2 fun y hy=>by
  obtain ⟨x,hx,hy⟩:=List.mem_flatMap.1 hy
  exact List.all_eq_true.1 (hk x hx).2 y hy
 simp only [AY,mW,QS (Nat.le_refl _) hk,List.take_length,h3,cond_true]
theorem uR {n by_:Nat} (h:(2*n+1024)*by_<=281474976710656/\n<4611686018427387904):dX n by_=true:=by
 simp only [dX,Bool.and_eq_true,Nat.ble_eq,Nat.blt_eq];exact ⟨by omega,by omega⟩
theorem GO {s:Sto} {k by_ n:Nat} {new:List AV} (hn:n≠0) (hr:(2*n+1024)*by_<=281474976710656/\n<4611686018427387904) (hc:new.all AV.isCell=true):
 apF s k by_ .nils (some (n,new))=some (.val' (.sl s.n 0 0 n (.room k)) (s.push (ob new))):=by
 have h1:Nat.beq n 0=false:=by cases h:Nat.beq n 0 with | false=>rfl | true=>exact absurd (Nat.eq_of_beq_eq_true h) hn
 simp only [apF,h1,cond_false,fN,uR hr,cond_true,List.nil_append,nV,hc,if_true]
theorem QT {s:Sto} {k by_:Nat} {new:List AV}:apF s k by_ .nils (some (0,new))=some (.val .nils):=rfl
def apR (s:Sto) (o:Option AObj) (id g len k by_ n:Nat) (new:List AV):Option ORes:=match o with
 | some (.cells g' m cs)=>bif Nat.beq g g'&&Nat.beq (len*k) m&&dX (len+n) by_ then some (.val' (.sl id (g'+1) 0 (len+n) (.room k)) (s.put id (.cells (g'+1) (m+n*k) (cs.lay m new)))) else none
 | _=>none
theorem GP {s:Sto} {k by_ id g len n:Nat} {new:List AV}:apF s k by_ (.sl id g 0 len (.room k)) (some (n,new))=apR s (s.get id) id g len k by_ n new:=by
 simp only [apF,apR]
 cases s.get id with
 | none=>rfl
 | some o=>
   cases o with
   | cells g' m cs=>simp only [Nat.beq_refl,Bool.and_true,Nat.zero_add,cond_true]
   | _=>rfl
theorem OH {s:Sto} {id g len k by_ n:Nat} {cs new:List AV} (hl:cs.length=len*k) (hn:new.length=n*k) (hr:(2*(len+n)+1024)*by_<=281474976710656/\len+n<4611686018427387904):
 apR s (some (bB g cs)) id g len k by_ n new=some (.val' (.sl id (g+1) 0 (len+n) (.room k)) (s.put id (bB (g+1) (cs++new)))):=by
 simp only [apR,bB,Nat.beq_refl,hl,uR hr,Bool.and_self,cond_true]
 have:=Tr.lay_append cs new .leaf 0
 rw [Nat.zero_add,hl]at this
 rw [this,List.length_append,hl,hn]
end
end Go.Abs
/-
 The abstract machine: the rules of operations,together;slices that stay as they are.
-/
namespace Go.Abs
noncomputable section
theorem wop:(∀ {P:Program} {s:Sto} {t:TypeId} {id g off:Nat},dV P s t (.ptr id g off)=tyC (tyK P t) (s.get id) g off (DL P s t (.ptr id g off)))/\(∀ {x:Option Nat} {o:Option AObj} {g off:Nat} {d:Option AV},tyC (some x) o g off d=ldK (some x) o g off)/\
 (∀ {P:Program} {s:Sto} {t:TypeId} {id g off:Nat} {v:AV},jK P s t (.ptr id g off) v=stC (tyK P t) s id g off v (s.get id) (OA P s t (.ptr id g off) v))/\(∀ {x:Option Nat} {s:Sto} {id g off:Nat} {v:AV} {o:Option AObj} {d:Option Sto},stC (some x) s id g off v o d=stK s (some x) id g off v o)/\
 (∀ {P:Program} {s:Sto} {t:TypeId} {v:AV},dV P s t (.pf v)=QL (tyK P t) v (DL P s t (.pf v)))/\(∀ {v:AV} {d:Option AV},v.isCell=true->QL (some none) v d=some v)/\(∀ {cs:List AV} {k:Nat} {d:Option AV},cs.length=k->QL (some (some k)) (.agg cs) d=some (.agg cs))/\
 (∀ {P:Program} {t:TypeId} {id g o f:Nat},bJ P t (.ptr id g o) f=aFj (aZ P t f) id g o (lF P t (.ptr id g o) f))/\(∀ {off:Nat} {y:Option Nat} {id g o:Nat} {d:Option AV},aFj (some (off,y)) id g o d=some (.ptr id g (o+off)))/\
 (∀ {P:Program} {t:TypeId} {cs:List AV} {f:Nat},mB P t (.agg cs) f=aFk (aZ P t f) cs (OD P t (.agg cs) f))/\(∀ {off:Nat} {y:Option Nat} {cs:List AV} {d:Option AV},aFk (some (off,y)) cs d=YX y cs off)/\(∀ {cs:List AV} {off:Nat},YX none cs off=cs[off]?)/\(∀ {cs:List AV} {off n:Nat},off+n<=cs.length->YX (some n) cs off=some (.agg (aV cs off n)))/\
 (∀ {P:Program} {t:TypeId} {cs:List AV} {f:Nat},bJ P t (.pf (.agg cs)) f=nO (aZ P t f) cs (lF P t (.pf (.agg cs)) f))/\
 (∀ {P:Program} {s:Sto} {t:TypeId} {v:AV},aW P s .len [t].toArray [v]=tC (eO P t) s v (qG P s .len [t].toArray [v]))/\(∀ {s:Sto} {l:List Nat} {d:Option ORes},tC (some 0) s (.str l) d=some (.val (.int .i64 (l.length:Nat))))/\(∀ {s:Sto} {d:Option ORes},tC (some 1) s .nils d=some (.val (.int .i64 0)))/\
 (∀ {s:Sto} {l:List AV} {c:Bool} {d:Option ORes},tC (some 1) s (.fz l c) d=some (.val (.int .i64 (l.length:Nat))))/\(∀ {s:Sto} {i g o n:Nat} {c:ACap} {d:Option ORes},tC (some 1) s (.sl i g o n c) d=some (.val (.int .i64 (n:Nat))))/\
 (∀ {P:Program} {t:TypeId} {l:List Nat} {v:AV},oE P t (.str l) v=zV (eO P t) l v (OE P t (.str l) v))/\(∀ {l:List Nat} {k:IntKind} {i:Int} {d:Option AV},0<=i->i<l.length->zV (some 0) l (.int k i) d=some (.int .u8 ((l.getD i.toNat 0:Nat):Int)))/\
 (∀ {P:Program} {t:TypeId} {l:List AV} {c:Bool} {v:AV},bK P t (.fz l c) v=rW (nR P t) l v (eC P t (.fz l c) v))/\
 (∀ {P:Program} {t:TypeId} {id g off len:Nat} {c:ACap} {v:AV},bK P t (.sl id g off len c) v=QN (nR P t) id g off len v (eC P t (.sl id g off len c) v))/\(∀ {k id g off len:Nat} {q:IntKind} {i:Int} {d:Option AV},0<=i->i<len->QN (some k) id g off len (.int q i) d=some (.ptr id g (off+i.toNat*k)))/\
 (∀ {P:Program} {t:TypeId} {id g off:Nat} {v:AV},bK P t (.ptr id g off) v=QO (HA P t) id g off v (eC P t (.ptr id g off) v))/\(∀ {n id g off:Nat} {k:Option Nat} {q:IntKind} {i:Int} {d:Option AV},0<=i->i<n->QO (some (n,k)) id g off (.int q i) d=some (.ptr id g (off+i.toNat*iD k)))/\
 (∀ {P:Program} {t:TypeId} {l:List Nat} {lo hi:Option AV},eP P t (.str l) lo hi none=rX (eO P t) l lo hi (qH P t (.str l) lo hi none))/\
 (∀ {l:List Nat} {j k:IntKind} {a b:Int} {d:Option AV},0<=a->a<=b->b<=l.length->rX (some 0) l (some (.int j a)) (some (.int k b)) d=some (.str (aV l a.toNat (b.toNat-a.toNat))))/\
 (∀ {l:List Nat} {j:IntKind} {a:Int} {d:Option AV},0<=a->a<=l.length->rX (some 0) l (some (.int j a)) none d=some (.str (l.drop a.toNat)))/\(∀ {l:List Nat} {k:IntKind} {b:Int} {d:Option AV},0<=b->b<=l.length->rX (some 0) l none (some (.int k b)) d=some (.str (l.take b.toNat)))/\
 (∀ {P:Program} {s:Sto} {src dst:TypeId} {v:AV},gP P s src dst v=WL (IT P src dst) s v (WK P s src dst v))/\(∀ {s:Sto} {k j:IntKind} {n:Int} {d:Option ORes},WL (some (.int k)) s (.int j n) d=some (.val (.int k (k.wrap n))))/\(∀ {s:Sto} {l:List Nat} {d:Option ORes},WL (some .str) s (.str l) d=some (.val (.str l)))/\
 (∀ {s:Sto} {l:List Nat} {d:Option ORes},WL (some .bytes) s (.str l) d=some (.val' (.sl s.n 0 0 l.length (.room 1)) (s.push (ob (eI l)))))/\
 (∀ {P:Program} {t:TypeId} {parts:List (Nat × AV)},mA P t parts=bdC (kK P t) parts (OG P t parts))/\(∀ {z:List AV} {ps:List (Nat × Nat)} {parts:List (Nat × AV)} {d:Option AV},bdC (some (.struct z ps)) parts d=(dW (fun i=>ps[i]?) z parts).map .agg)/\(∀ {z:List AV} {k:Nat} {parts:List (Nat × AV)} {d:Option AV},bdC (some (.array z k)) parts d=(dW (fun i=>some (i*k,k)) z parts).map .agg)/\
 (∀ {place:Nat->Option (Nat × Nat)} {cells:List AV},dW place cells []=some cells)/\(∀ {place:Nat->Option (Nat × Nat)} {i:Nat} {v:AV} {cells:List AV} {rest:List (Nat × AV)},dW place cells ((i,v)::rest)=tF place (place i) v cells rest)/\
 (∀ {place:Nat->Option (Nat × Nat)} {off:Nat} {v:AV} {cells:List AV} {rest:List (Nat × AV)},v.isCell=true->off<cells.length->tF place (some (off,1)) v cells rest=dW place (cells.set off v) rest)/\
 (∀ {place:Nat->Option (Nat × Nat)} {off n:Nat} {vs cells:List AV} {rest:List (Nat × AV)},vs.length=n->vs.all AV.isCell=true->off+n<=cells.length->tF place (some (off,n)) (.agg vs) cells rest=dW place (bM cells off vs) rest)/\
 (∀ {P:Program} {O:Orc} {t:TypeId} {len:Nat} {parts:Array (Nat × Operand)} {e:Env} {K:ORes->Prop},dA P O (.buildSlice t len parts) e K↔bsC (wY P t) len (parts.toList.map fun p=>(p.1,e.eval p.2)) e.s K (aIj P O (.buildSlice t len parts) e K))/\
 (∀ {k:Nat} {z:List AV} {len:Nat} {parts:List (Nat × AV)} {s:Sto} {K:ORes->Prop} {d:Prop},bsC (some (k,z)) len parts s K d=(len*k<=16777216/\bsF (dW (fun i=>some (i*k,k)) (cY z len) parts) len s K))/\
 (∀ {cs:List AV} {len:Nat} {s:Sto} {K:ORes->Prop},bsF (some cs) len s K↔cs.all AV.isCell=true/\K (.val' (.sl s.n 0 0 len (.is len)) (s.push (ob cs))))/\(∀ {z:List AV},cY z 0=[])/\(∀ {z:List AV} {n:Nat},cY z (n+1)=z++cY z n)/\
 (∀ {P:Program} {s:Sto} {t u:TypeId} {x y:AV},aW P s .append [t,u].toArray [x,y]=apC (wZ P t u) s x y (qG P s .append [t,u].toArray [x,y]))/\(∀ {k by_:Nat} {s:Sto} {v y:AV} {d:Option ORes},apC (some (k,by_)) s v y d=apF s k by_ v (AY s k y))/\
 (∀ {s:Sto} {k id g off len:Nat} {c:ACap},AY s k (.sl id g off len c)=apO (s.get id) g off (len*k) len)/\(∀ {g off m n:Nat} {cs:List AV},off+m<=cs.length->(aV cs off m).all AV.isCell=true->apO (some (bB g cs)) g off m n=some (n,aV cs off m))/\(∀ {cs:List AV} {m:Nat},m=cs.length->aV cs 0 m=cs)/\
 (∀ {s:Sto} {k:Nat},AY s k .nils=some (0,[]))/\(∀ {s:Sto} {l:List Nat},AY s 1 (.str l)=some (l.length,eI l))/\
 (∀ {s:Sto} {k by_ n:Nat} {new:List AV},n≠0->((2*n+1024)*by_<=281474976710656/\n<4611686018427387904)->new.all AV.isCell=true->apF s k by_ .nils (some (n,new))=some (.val' (.sl s.n 0 0 n (.room k)) (s.push (ob new))))/\
 (∀ {s:Sto} {k by_ id g len n:Nat} {new:List AV},apF s k by_ (.sl id g 0 len (.room k)) (some (n,new))=apR s (s.get id) id g len k by_ n new)/\
 (∀ {s:Sto} {id g len k by_ n:Nat} {cs new:List AV},cs.length=len*k->new.length=n*k->((2*(len+n)+1024)*by_<=281474976710656/\len+n<4611686018427387904)->apR s (some (bB g cs)) id g len k by_ n new=some (.val' (.sl id (g+1) 0 (len+n) (.room k)) (s.put id (bB (g+1) (cs++new))))):=
 ⟨aBd,rfl,WE,rfl,QM,OB,OC,DM,rfl,WF,rfl,rfl,aBe,yL,aFl,rfl,rfl,rfl,rfl,WJ,wX,pM,yM,aBf,wF,aBg,GN,QP,DN,aBh,aBj,rfl,rfl,rfl,
  WM,rfl,rfl,rfl,KW,QQ,QR,yO,rfl,WN,rfl,rfl,WO,rfl,aFm,aBk,yP,WP,aBl,GO,GP,OH⟩
def Sl (a:AV) (xs:List AV):Prop:=(a=.nils/\xs=[]∨∃ c,a=.fz xs c)/\xs.length<=9223372036854775807
theorem Sl.cell {a:AV} {xs:List AV} (h:Sl a xs):a.isCell=true:=by
 rcases h.1 with ⟨rfl,_⟩ | ⟨c,rfl⟩<;>rfl
theorem Sl.len {a:AV} {xs:List AV} (h:Sl a xs) {s:Sto} {d:Option ORes}:tC (some 1) s a d=some (.val (.int .i64 (xs.length:Nat))):=by
 rcases h.1 with ⟨rfl,rfl⟩ | ⟨c,rfl⟩<;>rfl
theorem Sl.idx {a:AV} {xs:List AV} (h:Sl a xs) {P:Program} {t:TypeId} {v:AV}:bK P t a v=rW (nR P t) xs v (eC P t a v):=by
 rcases h.1 with ⟨rfl,rfl⟩ | ⟨c,rfl⟩
 ·cases hk:nR P t with
  | none=>rfl
  | some k=>
    have h1:rW (some k) [] v (eC P t .nils v)=none:=by
     simp only [rW,List.length_nil]
     cases oD v 0<;>rfl
    rw [h1]
    simp only [bK]
    cases P.underlying t with
    | none=>rfl
    | some d=>cases d<;>rfl
 ·exact pM
theorem yQ {n:Nat} {a:AV} {xs:List AV} (h:Sl a xs) (hx:∀ x∈xs,UnderE n x):UnderE n a:=by
 rcases h.1 with ⟨rfl,_⟩ | ⟨c,rfl⟩
 ·exact ⟨1,rfl⟩
 ·exact QV hx
end
end Go.Abs
