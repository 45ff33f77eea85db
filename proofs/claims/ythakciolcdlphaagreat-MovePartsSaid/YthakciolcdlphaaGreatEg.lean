/-
  The abstract machine: operations by facts on types that a program's own text gives.
-/
import Derived.Test.YthakciolcdlphaaGreatEf
set_option linter.unusedVariables false
set_option linter.unusedSimpArgs false
namespace Go.Abs
noncomputable section
variable {P:Program}
def GL:=@eB
def RE:=@kM
def tyC (x:Option (Option Nat)) (o:Option AObj) (g off:Nat) (d:Option AV):Option AV:=match x with
 | some x=>ldK (some x) o g off
 | none=>d
theorem aFv {s:Sto} {t:TypeId} {id g off:Nat}:eB P s t (.ptr id g off)=tyC (tyK P t) (s.get id) g off (GL P s t (.ptr id g off)):=by
 cases h:tyK P t with
 | none=>rfl
 | some x=>rw [VA h];rfl
def stC (x:Option (Option Nat)) (s:Sto) (id g off:Nat) (v:AV) (o:Option AObj) (d:Option Sto):Option Sto:=match x with
 | some x=>stK s (some x) id g off v o
 | none=>d
theorem aAh {s:Sto} {t:TypeId} {id g off:Nat} {v:AV}:kM P s t (.ptr id g off) v=stC (tyK P t) s id g off v (s.get id) (RE P s t (.ptr id g off) v):=by
 cases h:tyK P t with
 | none=>rfl
 | some x=>rw [OK h];rfl
def UO (x:Option (Option Nat)) (v:AV) (d:Option AV):Option AV:=match x with
 | some none=>bif v.isCell then some v else none
 | some (some k)=>(match v with
   | .agg cs=>bif Nat.beq cs.length k then some (.agg cs) else none
   | _=>none)
 | none=>d
theorem UP {s:Sto} {t:TypeId} {v:AV}:eB P s t (.pf v)=UO (tyK P t) v (GL P s t (.pf v)):=by
 cases h:tyK P t with
 | none=>rfl
 | some x=>
   obtain ⟨h1,h2⟩:=pF h
   cases x with
   | none=>simp only [eB,h1,h2,UO,iU,Option.isSome]
   | some k=>
     simp only [eB,h1,h2,UO,iU,Option.isSome]
     cases v<;>rfl
theorem RF {v:AV} {d:Option AV} (h:v.isCell=true):UO (some none) v d=some v:=by simp [UO,h]
theorem RG {cs:List AV} {k:Nat} {d:Option AV} (h:cs.length=k):UO (some (some k)) (.agg cs) d=some (.agg cs):=by simp [UO,h]
def mM:=@bO
def RH:=@nL
def aJt (x:Option (Nat × Option Nat)) (id g o:Nat) (d:Option AV):Option AV:=match x with
 | some (off,_)=>some (.ptr id g (o+off))
 | none=>d
theorem GM {t:TypeId} {id g o f:Nat}:bO P t (.ptr id g o) f=aJt (aY P t f) id g o (mM P t (.ptr id g o) f):=by
 cases h:aY P t f with
 | none=>rfl
 | some x=>obtain ⟨off,y⟩:=x;rw [BP h];rfl
def aJu (x:Option (Nat × Option Nat)) (cs:List AV) (d:Option AV):Option AV:=match x with
 | some (off,y)=>ptK y cs off
 | none=>d
theorem aAi {t:TypeId} {cs:List AV} {f:Nat}:nL P t (.agg cs) f=aJu (aY P t f) cs (RH P t (.agg cs) f):=by
 cases h:aY P t f with
 | none=>rfl
 | some x=>obtain ⟨off,y⟩:=x;rw [OM h];rfl
theorem aFw {cs:List AV} {off n:Nat} (h:off+n<=cs.length):ptK (some n) cs off=some (.agg (aZ cs off n)):=by
 have:Nat.ble (off+n) cs.length=true:=by simpa using h
 simp [ptK,this]
def pC (x:Option (Nat × Option Nat)) (cs:List AV) (d:Option AV):Option AV:=match x with
 | some (off,none)=>(match cs[off]? with
   | some v=>bif v.isCell then some (.pf v) else none
   | none=>none)
 | some (off,some n)=>bif Nat.ble (off+n) cs.length then some (.pf (.agg (aZ cs off n))) else none
 | none=>d
theorem BF {t:TypeId} {cs:List AV} {f:Nat}:bO P t (.pf (.agg cs)) f=pC (aY P t f) cs (mM P t (.pf (.agg cs)) f):=by
 cases h:aY P t f with
 | none=>rfl
 | some x=>
   obtain ⟨off,y⟩:=x
   unfold aY at h
   split at h
   ·rename_i fields hu
    split at h
    ·rename_i fd hfd
     split at h
     ·rename_i z hz
      split at h
      ·cases h
      ·rename_i hne
       simp only [Option.some.injEq,Prod.mk.injEq]at h
       obtain ⟨rfl,rfl⟩:=h
       obtain ⟨h1,h2⟩:=pF hz
       have:∃ m,iU z=m+1:=by
        cases z with
        | none=>exact ⟨0,rfl⟩
        | some n=>cases n with
          | zero=>exact absurd rfl hne
          | succ m=>exact ⟨m,rfl⟩
       obtain ⟨m,hm⟩:=this
       rw [hm]at h1
       cases z with
       | none=>
         have h2':yW P fd.type=some false:=h2
         simp only [bO,hu,hfd,h1,sS,wZ hz,ptK,h2',pC]
         cases cs[fd.offset]?<;>rfl
       | some n=>
         have h2':yW P fd.type=some true:=h2
         simp only [bO,hu,hfd,h1,sS,wZ hz,ptK,h2',pC]
         cases Nat.ble (fd.offset+n) cs.length<;>rfl
     ·cases h
    ·cases h
   ·cases h
theorem aAj {off:Nat} {cs:List AV} {d:Option AV} {v:AV} (h:cs[off]?=some v) (hc:v.isCell=true):pC (some (off,none)) cs d=some (.pf v):=by simp [pC,h,hc]
theorem aAk {off n:Nat} {cs:List AV} {d:Option AV} (h:off+n<=cs.length):pC (some (off,some n)) cs d=some (.pf (.agg (aZ cs off n))):=by
 have:Nat.ble (off+n) cs.length=true:=by simpa using h
 simp [pC,this]
def fF (P:Program) (t:TypeId):Option Nat:=match P.underlying t with
 | some .string=>some 0
 | some (.slice _)=>some 1
 | some (.map _ _)=>some 2
 | some (.array n _)=>some (3+n)
 | _=>none
def oC:=@aV
def uX (x:Option Nat) (s:Sto) (v:AV) (d:Option ORes):Option ORes:=match x with
 | some 0=>(match v with
   | .str l=>some (.val (.int .i64 (l.length:Nat)))
   | _=>none)
 | some 1=>(match v with
   | .str _=>none
   | v=>(match oM v with
     | some n=>some (.val (.int .i64 (n:Nat)))
     | none=>none))
 | some 2=>(match v with
   | .nilm=>some (.val (.int .i64 0))
   | .map id=>(match s.get id with
     | some (.map es _)=>some (.val (.int .i64 (es.length:Nat)))
     | _=>none)
   | _=>none)
 | some (n+3)=>some (.val (.int .i64 (n:Nat)))
 | none=>d
theorem aJv {s:Sto} {t:TypeId} {v:AV}:aV P s .len [t].toArray [v]=uX (fF P t) s v (oC P s .len [t].toArray [v]):=by
 have h0:([t].toArray)[0]?=some t:=rfl
 cases h:fF P t with
 | none=>rfl
 | some x=>
   unfold fF at h
   simp only [aV,h0]
   cases hu:P.underlying t with
   | none=>rw [hu]at h;cases h
   | some d=>
     rw [hu]at h
     cases d with
     | string=>simp only [Option.some.injEq]at h;subst h;cases v<;>rfl
     | slice e=>simp only [Option.some.injEq]at h;subst h;cases v<;>rfl
     | map k e=>simp only [Option.some.injEq]at h;subst h;cases v<;>rfl
     | array n e=>
       simp only [Option.some.injEq]at h
       subst h
       rw [show 3+n=n+3 by omega]
       cases v<;>rfl
     | _=>cases h
theorem zF {k:IntKind} {i:Int} {n:Nat} (h0:0<=i) (h1:i<n):pQ (.int k i) n=some i.toNat:=by
 obtain ⟨m,rfl⟩:=Int.eq_ofNat_of_zero_le h0
 have:Nat.blt m n=true:=by simp;omega
 show (bif Nat.blt m n then some m else none)=_
 rw [this];rfl
theorem lR {d n:Nat}:dS none d n=some d:=rfl
theorem kW {k:IntKind} {i:Int} {d n:Nat} (h0:0<=i) (h1:i<=n):dS (some (.int k i)) d n=some i.toNat:=by
 obtain ⟨m,rfl⟩:=Int.eq_ofNat_of_zero_le h0
 have:Nat.ble m n=true:=by simp;omega
 show (bif Nat.ble m n then some m else none)=_
 rw [this];rfl
def RI:=@pS
def eG:=@bP
def CT (x:Option Nat) (l:List Nat) (v:AV) (d:Option AV):Option AV:=match x with
 | some 0=>(match pQ v l.length with
   | some i=>some (.int .u8 ((l.getD i 0:Nat):Int))
   | none=>none)
 | _=>d
theorem aAl {t:TypeId} {l:List Nat} {v:AV}:pS P t (.str l) v=CT (fF P t) l v (RI P t (.str l) v):=by
 unfold fF
 cases hu:P.underlying t with
 | none=>rfl
 | some d=>
   cases d<;>try rfl
   rotate_left
   ·show _=CT (some (3+_)) l v _
    rw [Nat.add_comm 3]
    rfl
   simp only [pS,hu,CT]
   cases hi:pQ v l.length with
   | none=>rfl
   | some i=>
     simp only
     have:i<l.length:=by
      unfold pQ at hi
      split at hi
      ·rename_i j
       cases hb:Nat.blt j l.length with
       | true=>rw [hb]at hi;simp at hi;subst hi;simpa using hb
       | false=>rw [hb]at hi;cases hi
      ·cases hi
     rw [List.getElem?_eq_getElem this]
     simp [List.getD_eq_getElem?_getD,this]
theorem zG {l:List Nat} {k:IntKind} {i:Int} {d:Option AV} (h0:0<=i) (h1:i<l.length):CT (some 0) l (.int k i) d=some (.int .u8 ((l.getD i.toNat 0:Nat):Int)):=by
 simp only [CT,zF h0 h1]
def tU (x:Option Nat) (l:List AV) (v:AV) (d:Option AV):Option AV:=match x with
 | some k=>(match pQ v l.length with
   | some i=>(match l[i]? with
     | some a=>bif Nat.beq a.cells.length k then some (.pf a) else none
     | none=>none)
   | none=>none)
 | none=>d
theorem rE {t:TypeId} {l:List AV} {c:Bool} {v:AV}:bP P t (.fz l c) v=tU (qC P t) l v (eG P t (.fz l c) v):=by
 cases h:qC P t with
 | none=>rfl
 | some k=>
   unfold qC at h
   split at h
   ·rename_i e hu
    simp only [bP,hu,h,tU]
    cases pQ v l.length<;>rfl
   ·cases h
theorem RJ {k:Nat} {l:List AV} {q:IntKind} {i:Int} {d:Option AV} {a:AV} (h0:0<=i) (h1:i<l.length) (ha:l[i.toNat]?=some a) (hk:a.cells.length=k):tU (some k) l (.int q i) d=some (.pf a):=by
 have:Nat.beq a.cells.length k=true:=by rw [hk];exact Nat.beq_refl k
 simp only [tU,zF h0 h1,ha,this,cond_true]
def UQ (x:Option Nat) (id g off len:Nat) (v:AV) (d:Option AV):Option AV:=match x with
 | some k=>(match pQ v len with
   | some i=>some (.ptr id g (off+i*k))
   | none=>none)
 | none=>d
theorem BG {t:TypeId} {id g off len:Nat} {c:ACap} {v:AV}:bP P t (.sl id g off len c) v=UQ (qC P t) id g off len v (eG P t (.sl id g off len c) v):=by
 cases h:qC P t with
 | none=>rfl
 | some k=>
   unfold qC at h
   split at h
   ·rename_i e hu
    simp only [bP,hu,h,UQ]
    cases pQ v len<;>rfl
   ·cases h
theorem aFx {k id g off len:Nat} {q:IntKind} {i:Int} {d:Option AV} (h0:0<=i) (h1:i<len):UQ (some k) id g off len (.int q i) d=some (.ptr id g (off+i.toNat*k)):=by
 simp only [UQ,zF h0 h1]
def UR (x:Option (Nat × Option Nat)) (id g off:Nat) (v:AV) (d:Option AV):Option AV:=match x with
 | some (n,k)=>(match pQ v n with
   | some i=>some (.ptr id g (off+i*iU k))
   | none=>none)
 | none=>d
theorem yT {t:TypeId} {id g off:Nat} {v:AV}:bP P t (.ptr id g off) v=UR (LU P t) id g off v (eG P t (.ptr id g off) v):=by
 cases h:LU P t with
 | none=>rfl
 | some x=>
   obtain ⟨n,k⟩:=x
   unfold LU at h
   split at h
   ·rename_i m e hu
    cases ht:tyK P e with
    | none=>rw [ht]at h;cases h
    | some y=>
      rw [ht]at h
      simp only [Option.map_some,Option.some.injEq,Prod.mk.injEq]at h
      obtain ⟨rfl,rfl⟩:=h
      obtain ⟨h1,h2⟩:=pF ht
      simp only [bP,hu,h1,UR]
      cases pQ v m<;>rfl
   ·cases h
theorem aFy {n id g off:Nat} {k:Option Nat} {q:IntKind} {i:Int} {d:Option AV} (h0:0<=i) (h1:i<n):UR (some (n,k)) id g off (.int q i) d=some (.ptr id g (off+i.toNat*iU k)):=by
 simp only [UR,zF h0 h1]
def sF:=@eQ
def tV (x:Option Nat) (l:List Nat) (lo hi:Option AV) (d:Option AV):Option AV:=match x with
 | some 0=>(match dS hi l.length l.length with
   | some h=>(match dS lo 0 h with
     | some i=>some (.str (aZ l i (h-i)))
     | none=>none)
   | none=>none)
 | _=>d
theorem JP {t:TypeId} {l:List Nat} {lo hi:Option AV}:eQ P t (.str l) lo hi none=tV (fF P t) l lo hi (sF P t (.str l) lo hi none):=by
 unfold fF
 cases hu:P.underlying t with
 | none=>rfl
 | some d=>
   cases d<;>try rfl
   rotate_left
   ·show _=tV (some (3+_)) l lo hi _
    rw [Nat.add_comm 3]
    rfl
   simp only [eQ,hu,tV]
   cases dS hi l.length l.length with
   | none=>rfl
   | some h=>cases dS lo 0 h<;>rfl
theorem US {l:List Nat} {j k:IntKind} {a b:Int} {d:Option AV} (h0:0<=a) (h1:a<=b) (h2:b<=l.length):tV (some 0) l (some (.int j a)) (some (.int k b)) d=some (.str (aZ l a.toNat (b.toNat-a.toNat))):=by
 simp only [tV,kW (show 0<=b by omega) h2,kW h0 (show a<=(b.toNat:Int) by omega)]
theorem GN {l:List Nat} {j:IntKind} {a:Int} {d:Option AV} (h0:0<=a) (h1:a<=l.length):tV (some 0) l (some (.int j a)) none d=some (.str (l.drop a.toNat)):=by
 simp only [tV,lR,kW h0 h1]
 simp only [aZ]
 rw [List.take_of_length_le (by simp)]
theorem aFz {l:List Nat} {k:IntKind} {b:Int} {d:Option AV} (h0:0<=b) (h2:b<=l.length):tV (some 0) l none (some (.int k b)) d=some (.str (l.take b.toNat)):=by
 simp only [tV,kW h0 h2,lR,aZ,List.drop_zero,Nat.sub_zero]
def OA (x:Option Nat) (v:AV) (lo hi mx:Option AV) (d:Option AV):Option AV:=match x with
 | some k=>pR k v lo hi mx
 | none=>d
theorem OB {t:TypeId} {l:List AV} {c:Bool} {lo hi mx:Option AV}:eQ P t (.fz l c) lo hi mx=OA (qC P t) (.fz l c) lo hi mx (sF P t (.fz l c) lo hi mx):=by
 cases h:qC P t with
 | none=>rfl
 | some k=>
   unfold qC at h
   split at h
   ·rename_i e hu;simp only [eQ,hu,h,OA]
   ·cases h
theorem JQ {t:TypeId} {lo hi mx:Option AV}:eQ P t .nils lo hi mx=OA (qC P t) .nils lo hi mx (sF P t .nils lo hi mx):=by
 cases h:qC P t with
 | none=>rfl
 | some k=>
   unfold qC at h
   split at h
   ·rename_i e hu;simp only [eQ,hu,h,OA]
   ·cases h
inductive CvK where
 | int (k:IntKind)
 | str
 | bytes
 | ofBytes
def LS (P:Program) (src dst:TypeId):Option CvK:=match P.underlying src,P.underlying dst with
 | some (.int _),some (.int k)=>some (.int k)
 | some .string,some .string=>some .str
 | some .string,some (.slice e)=>(match P.underlying e with
   | some (.int .u8)=>some .bytes
   | _=>none)
 | some (.slice e),some .string=>(match P.underlying e with
   | some (.int .u8)=>some .ofBytes
   | _=>none)
 | _,_=>none
def aAm:=@iB
def cvC (x:Option CvK) (s:Sto) (v:AV) (d:Option ORes):Option ORes:=match x,v with
 | some (.int k),.int _ n=>some (.val (.int k (k.wrap n)))
 | some .str,.str l=>some (.val (.str l))
 | some .bytes,.str l=>some (.val' (.sl s.n 0 0 l.length (.room 1)) (s.push (ob (eR l))))
 | some .ofBytes,.str l=>some (.val (.str l))
 | some .ofBytes,v=>(match oM v with
   | some n=>(match dI s 1 n v with
     | some l=>(match Go.Abs.ofBytes l with
       | some b=>some (.val (.str b))
       | none=>none)
     | none=>none)
   | none=>none)
 | _,_=>d
theorem uY (l:List Nat):(eR l).all AV.isCell=true:=by simp [eR,AV.isCell]
theorem aGa {s:Sto} {src dst:TypeId} {v:AV}:iB P s src dst v=cvC (LS P src dst) s v (aAm P s src dst v):=by
 cases h:LS P src dst with
 | none=>cases v<;>rfl
 | some x=>
   unfold LS at h
   split at h
   ·rename_i k0 k h1 h2
    cases h
    cases v<;>first | rfl | (simp only [iB,h1,h2,cvC,eA])
   ·rename_i h1 h2
    cases h
    cases v<;>first | rfl | (simp only [iB,h1,h2,cvC])
   ·rename_i e h1 h2
    split at h
    ·rename_i h3
     cases h
     cases v<;>first | rfl | (simp only [iB,h1,h2,h3,cvC,mQ,uY,if_true])
    ·cases h
   ·rename_i e h1 h2
    split at h
    ·rename_i h3
     cases h
     cases v<;>first | rfl | (simp only [iB,h1,h2,h3,oM,cvC];done) | (simp only [iB,h1,h2,h3,oM,cvC];rfl) | (simp only [iB,h1,h2,h3,oM,cvC];generalize dI s 1 _ _=q;cases q with | none=>rfl | some l=>rfl)
    ·cases h
   ·cases h
end
end Go.Abs
/-
 The abstract machine: what builds and what appends.
-/
namespace Go.Abs
noncomputable section
variable {P:Program} {O:bN}
def uZ (place:Nat->Option (Nat × Nat)) (p:Option (Nat × Nat)) (v:AV) (cells:List AV) (rest:List (Nat × AV)):Option (List AV):=match p with
 | none=>none
 | some (off,size)=>bif Nat.beq v.cells.length size&&Nat.ble (off+size) cells.length&&v.cells.all AV.isCell then eC place (dF cells off v.cells) rest else none
theorem OC {place:Nat->Option (Nat × Nat)} {i:Nat} {v:AV} {cells:List AV} {rest:List (Nat × AV)}:eC place cells ((i,v)::rest)=uZ place (place i) v cells rest:=by
 simp only [eC,uZ]
 cases place i with
 | none=>rfl
 | some p=>
   obtain ⟨off,size⟩:=p
   simp only
   cases h:(Nat.beq v.cells.length size&&Nat.ble (off+size) cells.length&&v.cells.all AV.isCell) with
   | false=>rfl
   | true=>
     simp only [Bool.and_eq_true]at h
     have:=Nat.eq_of_beq_eq_true h.1.1
     simp only [cond_true,dF,this]
theorem UT {place:Nat->Option (Nat × Nat)} {off:Nat} {v:AV} {cells:List AV} {rest:List (Nat × AV)} (hc:v.isCell=true) (hl:off<cells.length):uZ place (some (off,1)) v cells rest=eC place (cells.set off v) rest:=by
 have hv:v.cells=[v]:=by cases v<;>first | rfl | cases hc
 have e1:Nat.ble (off+1) cells.length=true:=by simp;omega
 simp only [uZ,hv,List.length_cons,List.length_nil,Nat.zero_add,Nat.beq_refl,e1,List.all_cons,hc,List.all_nil,Bool.and_self,cond_true,BO hl]
theorem UU {place:Nat->Option (Nat × Nat)} {off n:Nat} {vs cells:List AV} {rest:List (Nat × AV)} (hn:vs.length=n) (hc:vs.all AV.isCell=true) (hl:off+n<=cells.length):uZ place (some (off,n)) (.agg vs) cells rest=eC place (dF cells off vs) rest:=by
 subst hn
 have e1:Nat.ble (off+vs.length) cells.length=true:=by simpa using hl
 simp only [uZ,AV.cells,Nat.beq_refl,e1,hc,Bool.and_self,cond_true]
inductive BdK where
 | struct (z:List AV) (ps:List (Nat × Nat))
 | array (z:List AV) (k:Nat)
def lG (P:Program) (t:TypeId):Option BdK:=match aX P t,P.underlying t with
 | some z,some (.struct fields)=>(pP P fields.toList).map fun ps=>.struct z.cells ps
 | some z,some (.array _ elem)=>(qE P elem).map fun k=>.array z.cells k
 | _,_=>none
def RK:=@nK
def bdC (x:Option BdK) (parts:List (Nat × AV)) (d:Option AV):Option AV:=match x with
 | some (.struct z ps)=>(eC (fun i=>ps[i]?) z parts).map .agg
 | some (.array z k)=>(eC (fun i=>some (i*k,k)) z parts).map .agg
 | none=>d
theorem aAo {t:TypeId} {parts:List (Nat × AV)}:nK P t parts=bdC (lG P t) parts (RK P t parts):=by
 cases h:lG P t with
 | none=>rfl
 | some x=>
   unfold lG at h
   split at h
   ·rename_i z fields h1 h2
    cases hp:pP P fields.toList with
    | none=>rw [hp]at h;cases h
    | some ps=>
      rw [hp]at h
      simp only [Option.map_some,Option.some.injEq]at h
      subst h
      simp only [nK,h1,h2,hp,bdC]
      cases eC (fun i=>ps[i]?) z.cells parts<;>rfl
   ·rename_i z n elem h1 h2
    cases hp:qE P elem with
    | none=>rw [hp]at h;cases h
    | some k=>
      rw [hp]at h
      simp only [Option.map_some,Option.some.injEq]at h
      subst h
      simp only [nK,h1,h2,hp,bdC]
      cases eC (fun i=>some (i*k,k)) z.cells parts<;>rfl
   ·cases h
def yU (P:Program) (t:TypeId):Option (Nat × List AV):=match P.underlying t with
 | some (.slice el)=>(match qE P el,aX P el with
   | some k,some z=>bif Nat.beq z.cells.length k&&Nat.blt 0 k then some (k,z.cells) else none
   | _,_=>none)
 | _=>none
def bsF (o:Option (List AV)) (len:Nat) (s:Sto) (K:ORes->Prop):Prop:=∃ cs,o=some cs/\cs.all AV.isCell=true/\K (.val' (.sl s.n 0 0 len (.is len)) (s.push (ob cs)))
@[congr] theorem aLj {o o':Option (List AV)} {len:Nat} {s s':Sto} {K:ORes->Prop} (h:o=o') (h':s=s'):bsF o len s K=bsF o' len s' K:=by rw [h,h']
theorem aAp {cs:List AV} {len:Nat} {s:Sto} {K:ORes->Prop}:bsF (some cs) len s K↔cs.all AV.isCell=true/\K (.val' (.sl s.n 0 0 len (.is len)) (s.push (ob cs))):=by simp [bsF]
def bsC (x:Option (Nat × List AV)) (len:Nat) (parts:List (Nat × AV)) (s:Sto) (K:ORes->Prop) (d:Prop):Prop:=match x with
 | some (k,z)=>len*k<=16777216/\bsF (eC (fun i=>some (i*k,k)) (cQ z len) parts) len s K
 | none=>d
def aNe:=@dH
theorem yG {z:List AV}:∀ n:Nat,(cQ z n).length=n*z.length
 | 0=>by simp [cQ]
 | n+1=>by simp only [cQ,List.length_append,yG n,Nat.succ_mul];omega
theorem BH {t:TypeId} {len:Nat} {parts:Array (Nat × Operand)} {e:Env} {K:ORes->Prop}:
 dH P O (.buildSlice t len parts) e K↔bsC (yU P t) len (parts.toList.map fun p=>(p.1,e.eval p.2)) e.s K (aNe P O (.buildSlice t len parts) e K):=by
 cases h:yU P t with
 | none=>exact .rfl
 | some x=>
   obtain ⟨k,z⟩:=x
   unfold yU at h
   split at h
   ·rename_i el hu
    split at h
    ·rename_i k' z' h1 h2
     cases hb:(Nat.beq z'.cells.length k'&&Nat.blt 0 k') with
     | false=>rw [hb]at h;cases h
     | true=>
       rw [hb]at h
       simp only [cond_true,Option.some.injEq,Prod.mk.injEq]at h
       obtain ⟨rfl,rfl⟩:=h
       simp only [Bool.and_eq_true,Nat.blt_eq]at hb
       have hk:=Nat.eq_of_beq_eq_true hb.1
       have hr:∀ call,dR P call (.buildSlice t len parts) e=if len*k'<=16777216 then (match eC (fun i=>some (i*k',k')) (cQ z'.cells len) (parts.toList.map fun p=>(p.1,e.eval p.2)) with
        | some cs=>if cs.all AV.isCell=true then some (.val' (.sl e.s.n 0 0 len (.is len)) (e.s.push (ob cs))) else none
        | none=>none) else none:=by
        intro call
        simp only [dR,gC,hu,h1,h2]
        by_cases hle:len*k'<=16777216
        ·have e1:Nat.ble (len*k') (2 ^ 24)=true:=by simpa using hle
         rw [if_pos hle,e1]
         simp only [cond_true]
         have e2:(bif Nat.beq (len*k') 0 then some [] else some (cQ z'.cells len))=some (cQ z'.cells len):=by
          cases hz:Nat.beq (len*k') 0 with
          | false=>rfl
          | true=>
            have:=Nat.eq_of_beq_eq_true hz
            have hl:len=0:=by
             rcases Nat.mul_eq_zero.1 this with h | h
             ·exact h
             ·omega
            subst hl;rfl
         rw [e2]
         simp only [yG,hk,Nat.beq_refl,cond_true]
         cases eC (fun i=>some (i*k',k')) (cQ z'.cells len) (parts.toList.map fun p=>(p.1,e.eval p.2)) with
         | none=>rfl
         | some cs=>
           simp only [mQ]
           by_cases hc:cs.all AV.isCell=true
           ·rw [if_pos hc,if_pos hc]
           ·rw [if_neg hc,if_neg hc]
        ·have e1:Nat.ble (len*k') (2 ^ 24)=false:=by
          cases hb2:Nat.ble (len*k') (2 ^ 24) with
          | false=>rfl
          | true=>exact absurd (by simpa using hb2) hle
         rw [if_neg hle,e1];rfl
       rw [nH hr]
       simp only [bsC,bsF,qI]
       by_cases hle:len*k'<=16777216
       ·rw [if_pos hle]
        cases eC (fun i=>some (i*k',k')) (cQ z'.cells len) (parts.toList.map fun p=>(p.1,e.eval p.2)) with
        | none=>simp
        | some cs=>
          by_cases hc:cs.all AV.isCell=true
          ·simp only [hc,if_true,Option.some.injEq,exists_eq_left',hle,true_and]
          ·simp only [hc,if_false,Option.some.injEq,exists_eq_left',hle,true_and,false_and,reduceCtorEq,exists_false,Bool.false_eq_true]
       ·rw [if_neg hle];simp [hle]
    ·cases h
   ·cases h
def yH (P:Program) (t u:TypeId):Option (Nat × Nat):=match apK P t,P.underlying u with
 | some x,some (.slice _)=>some x
 | some x,some .string=>some x
 | _,_=>none
def yV (s:Sto) (k:Nat) (y:AV):Option (Nat × List AV):=match oM y with
 | none=>none
 | some n=>(match dI s k n y with
   | none=>none
   | some new=>bif new.all AV.isCell then some (n,new) else none)
def apF (s:Sto) (k by_:Nat) (x:AV) (y:Option (Nat × List AV)):Option ORes:=match y with
 | none=>none
 | some (n,new)=>(match x with
   | .nils=>bif Nat.beq n 0 then some (.val .nils) else eS s k by_ [] new n
   | .fz xs true=>bif Nat.beq n 0 then some (.val x) else (match dI s k xs.length x with
     | some old=>eS s k by_ old new (xs.length+n)
     | none=>none)
   | .sl id g off len (.is c)=>bif Nat.ble (len+n) c then
    (match s.get id with
    | some (.cells g' m cs)=>bif Nat.beq g g'&&Nat.ble (off+c*k) m then some (.val' (.sl id g off (len+n) (.is c)) (s.put id (.cells g' m (cs.lay (off+len*k) new)))) else none
    | _=>none)
     else (match dI s k len x with
      | some old=>eS s k by_ old new (len+n)
      | none=>none)
   | .sl id g off len (.room r)=>(match s.get id with
     | some (.cells g' m cs)=>bif Nat.beq g g'&&Nat.beq k r&&Nat.beq (off+len*k) m&&eD (len+n) by_ then
      bif Nat.beq off 0 then some (.val' (.sl id (g'+1) 0 (len+n) (.room k)) (s.put id (.cells (g'+1) (m+n*k) (cs.lay m new))))
      else (match cs.row off (len*k) with
      | some old=>some (.val' (.sl id (g'+1) 0 (len+n) (.room k)) (s.put id (.cells (g'+1) ((len+n)*k) (Tr.leaf.lay 0 (old++new)))))
      | none=>none)
       else none
     | _=>none)
   | .sl id g off len (.least r c)=>bif Nat.ble (len+n) c then
    (match s.get id with
    | some (.cells g' m cs)=>bif Nat.beq g g'&&Nat.beq k r&&Nat.ble (off+c*k) m then some (.val' (.sl id g off (len+n) (eP k (len+n) c)) (s.put id (.cells g' m (cs.lay (off+len*k) new)))) else none
    | _=>none)
     else none
   | _=>none)
def apC (x:Option (Nat × Nat)) (s:Sto) (v y:AV) (d:Option ORes):Option ORes:=match x with
 | some (k,by_)=>apF s k by_ v (yV s k y)
 | none=>d
theorem aAq {s:Sto} {t u:TypeId} {x y:AV}:aV P s .append [t,u].toArray [x,y]=apC (yH P t u) s x y (oC P s .append [t,u].toArray [x,y]):=by
 cases h:yH P t u with
 | none=>rfl
 | some q=>
   obtain ⟨k,by_⟩:=q
   have key:∀ d,P.underlying u=some d->(∀ j,d≠.int j)->apK P t=some (k,by_)->aV P s .append [t,u].toArray [x,y]=apF s k by_ x (yV s k y):=by
    intro d hu hd ha
    have h1:aV P s .append [t,u].toArray [x,y]=vW P s t x y:=by
     simp only [aV,hu]
     try (cases d<;>first | rfl | exact absurd rfl (hd _))
    rw [h1]
    unfold apK at ha
    split at ha
    ·rename_i e he
     split at ha
     ·rename_i k' b' z a1 a2 a3
      cases hz:Nat.beq z.cells.length k' with
      | false=>rw [hz]at ha;cases ha
      | true=>
        rw [hz]at ha
        simp only [cond_true,Option.some.injEq,Prod.mk.injEq]at ha
        obtain ⟨rfl,rfl⟩:=ha
        simp only [vW,he,a1,a2,a3,yV]
        cases oM y with
        | none=>rfl
        | some n=>
          simp only
          cases dI s k' n y with
          | none=>rfl
          | some new=>
            simp only [hz,Bool.true_and]
            cases new.all AV.isCell with
            | false=>rfl
            | true=>
              simp only [cond_true,apF]
              cases x with
              | sl id g off len c=>cases c<;>rfl
              | fz xs c=>cases c<;>rfl
              | _=>rfl
     ·cases ha
    ·cases ha
   unfold yH at h
   split at h
   ·rename_i q e h1 h2;cases h;exact key _ h2 (by simp) h1
   ·rename_i q h1 h2;cases h;exact key _ h2 (by simp) h1
   ·cases h
def apO (o:Option AObj) (g off m:Nat) (n:Nat):Option (Nat × List AV):=match o with
 | some (.cells g' q c)=>bif Nat.beq g g'&&Nat.ble (off+m) q then (match c.row off m with
   | some l=>bif l.all AV.isCell then some (n,l) else none
   | none=>none) else none
 | _=>none
theorem aJw {s:Sto} {k id g off len:Nat} {c:ACap}:yV s k (.sl id g off len c)=apO (s.get id) g off (len*k) len:=by
 have:Nat.ble len len=true:=by simp
 simp only [yV,oM,dI,this,cond_true,apO]
 cases s.get id with
 | none=>rfl
 | some o=>
   cases o with
   | cells g' q cs=>
     simp only
     cases (Nat.beq g g'&&Nat.ble (off+len*k) q) with
     | false=>rfl
     | true=>
       simp only [cond_true]
       cases cs.row off (len*k)<;>rfl
   | _=>rfl
theorem aGb {g off m n:Nat} {cs:List AV} (h:off+m<=cs.length) (hc:(aZ cs off m).all AV.isCell=true):apO (some (aU g cs)) g off m n=some (n,aZ cs off m):=by
 have:Nat.ble (off+m) cs.length=true:=by simpa using h
 simp only [apO,aU,Nat.beq_refl,this,Bool.and_self,cond_true,Tr.row_lay _ _ _ h,hc]
theorem BI {cs:List AV} {m:Nat} (h:m=cs.length):aZ cs 0 m=cs:=by subst h;simp [aZ]
theorem aAr {s:Sto} {k:Nat}:yV s k .nils=some (0,[]):=by simp [yV,oM,dI]
theorem aGc {s:Sto} {l:List Nat}:yV s 1 (.str l)=some (l.length,eR l):=by
 have:Nat.ble l.length l.length=true:=by simp
 simp only [yV,oM,dI,List.take_length,this,Nat.beq_refl,Bool.and_self,cond_true,uY]
theorem UV {s:Sto} {k n:Nat} {l:List AV} {c:Bool} (hn:n<=l.length) (hk:∀ x∈l,x.cells.length=k/\x.cells.all AV.isCell=true):dI s k n (.fz l c)=some ((l.take n).flatMap AV.cells):=by
 have h1:Nat.ble n l.length=true:=by simpa using hn
 have h2:((l.take n).all fun x=>Nat.beq x.cells.length k)=true:=List.all_eq_true.2 fun x hx=>by
  rw [(hk x (List.mem_of_mem_take hx)).1];exact Nat.beq_refl k
 have h3:((l.take n).flatMap AV.cells).all AV.isCell=true:=List.all_eq_true.2 fun y hy=>by
  obtain ⟨x,hx,hy⟩:=List.mem_flatMap.1 hy
  exact List.all_eq_true.1 (hk x (List.mem_of_mem_take hx)).2 y hy
 simp only [dI,h1,h2,h3,cond_true,Bool.and_self]
theorem aAs {s:Sto} {k:Nat} {l:List AV} {c:Bool} (hk:∀ x∈l,x.cells.length=k/\x.cells.all AV.isCell=true):yV s k (.fz l c)=some (l.length,l.flatMap AV.cells):=by
 have h3:(l.flatMap AV.cells).all AV.isCell=true:=List.all_eq_true.2 fun y hy=>by
  obtain ⟨x,hx,hy⟩:=List.mem_flatMap.1 hy
  exact List.all_eq_true.1 (hk x hx).2 y hy
 simp only [yV,oM,UV (Nat.le_refl _) hk,List.take_length,h3,cond_true]
theorem sG {n by_:Nat} (h:(2*n+1024)*by_<=281474976710656/\n<4611686018427387904):eD n by_=true:=by
 simp only [eD,Bool.and_eq_true,Nat.ble_eq,Nat.blt_eq];exact ⟨by omega,by omega⟩
theorem vA {s:Sto} {k by_ n:Nat} {new:List AV} (hn:n≠0) (hr:(2*n+1024)*by_<=281474976710656/\n<4611686018427387904) (hc:new.all AV.isCell=true):
 apF s k by_ .nils (some (n,new))=some (.val' (.sl s.n 0 0 n (.room k)) (s.push (ob new))):=by
 have h1:Nat.beq n 0=false:=by cases h:Nat.beq n 0 with | false=>rfl | true=>exact absurd (Nat.eq_of_beq_eq_true h) hn
 simp only [apF,h1,cond_false,eS,sG hr,cond_true,List.nil_append,mQ,hc,if_true]
theorem wY {s:Sto} {k by_:Nat} {new:List AV}:apF s k by_ .nils (some (0,new))=some (.val .nils):=rfl
def apR (s:Sto) (o:Option AObj) (id g len k by_ n:Nat) (new:List AV):Option ORes:=match o with
 | some (.cells g' m cs)=>bif Nat.beq g g'&&Nat.beq (len*k) m&&eD (len+n) by_ then some (.val' (.sl id (g'+1) 0 (len+n) (.room k)) (s.put id (.cells (g'+1) (m+n*k) (cs.lay m new)))) else none
 | _=>none
theorem oD {s:Sto} {k by_ id g len n:Nat} {new:List AV}:apF s k by_ (.sl id g 0 len (.room k)) (some (n,new))=apR s (s.get id) id g len k by_ n new:=by
 simp only [apF,apR]
 cases s.get id with
 | none=>rfl
 | some o=>
   cases o with
   | cells g' m cs=>simp only [Nat.beq_refl,Bool.and_true,Nat.zero_add,cond_true]
   | _=>rfl
theorem sH {s:Sto} {id g len k by_ n:Nat} {cs new:List AV} (hl:cs.length=len*k) (hn:new.length=n*k) (hr:(2*(len+n)+1024)*by_<=281474976710656/\len+n<4611686018427387904):
 apR s (some (aU g cs)) id g len k by_ n new=some (.val' (.sl id (g+1) 0 (len+n) (.room k)) (s.put id (aU (g+1) (cs++new)))):=by
 simp only [apR,aU,Nat.beq_refl,hl,sG hr,Bool.and_self,cond_true]
 have:=Tr.lay_append cs new .leaf 0
 rw [Nat.zero_add,hl]at this
 rw [this,List.length_append,hl,hn]
end
end Go.Abs
/-
 The abstract machine: the rules of operations,together;slices that stay as they are.
-/
namespace Go.Abs
noncomputable section
theorem wop:(∀ {P:Program} {s:Sto} {t:TypeId} {id g off:Nat},eB P s t (.ptr id g off)=tyC (tyK P t) (s.get id) g off (GL P s t (.ptr id g off)))/\(∀ {x:Option Nat} {o:Option AObj} {g off:Nat} {d:Option AV},tyC (some x) o g off d=ldK (some x) o g off)/\
 (∀ {P:Program} {s:Sto} {t:TypeId} {id g off:Nat} {v:AV},kM P s t (.ptr id g off) v=stC (tyK P t) s id g off v (s.get id) (RE P s t (.ptr id g off) v))/\(∀ {x:Option Nat} {s:Sto} {id g off:Nat} {v:AV} {o:Option AObj} {d:Option Sto},stC (some x) s id g off v o d=stK s (some x) id g off v o)/\
 (∀ {P:Program} {s:Sto} {t:TypeId} {v:AV},eB P s t (.pf v)=UO (tyK P t) v (GL P s t (.pf v)))/\(∀ {v:AV} {d:Option AV},v.isCell=true->UO (some none) v d=some v)/\(∀ {cs:List AV} {k:Nat} {d:Option AV},cs.length=k->UO (some (some k)) (.agg cs) d=some (.agg cs))/\
 (∀ {P:Program} {t:TypeId} {id g o f:Nat},bO P t (.ptr id g o) f=aJt (aY P t f) id g o (mM P t (.ptr id g o) f))/\(∀ {off:Nat} {y:Option Nat} {id g o:Nat} {d:Option AV},aJt (some (off,y)) id g o d=some (.ptr id g (o+off)))/\
 (∀ {P:Program} {t:TypeId} {cs:List AV} {f:Nat},nL P t (.agg cs) f=aJu (aY P t f) cs (RH P t (.agg cs) f))/\(∀ {off:Nat} {y:Option Nat} {cs:List AV} {d:Option AV},aJu (some (off,y)) cs d=ptK y cs off)/\(∀ {cs:List AV} {off:Nat},ptK none cs off=cs[off]?)/\(∀ {cs:List AV} {off n:Nat},off+n<=cs.length->ptK (some n) cs off=some (.agg (aZ cs off n)))/\
 (∀ {P:Program} {t:TypeId} {cs:List AV} {f:Nat},bO P t (.pf (.agg cs)) f=pC (aY P t f) cs (mM P t (.pf (.agg cs)) f))/\
 (∀ {P:Program} {s:Sto} {t:TypeId} {v:AV},aV P s .len [t].toArray [v]=uX (fF P t) s v (oC P s .len [t].toArray [v]))/\(∀ {s:Sto} {l:List Nat} {d:Option ORes},uX (some 0) s (.str l) d=some (.val (.int .i64 (l.length:Nat))))/\(∀ {s:Sto} {d:Option ORes},uX (some 1) s .nils d=some (.val (.int .i64 0)))/\
 (∀ {s:Sto} {l:List AV} {c:Bool} {d:Option ORes},uX (some 1) s (.fz l c) d=some (.val (.int .i64 (l.length:Nat))))/\(∀ {s:Sto} {i g o n:Nat} {c:ACap} {d:Option ORes},uX (some 1) s (.sl i g o n c) d=some (.val (.int .i64 (n:Nat))))/\
 (∀ {P:Program} {t:TypeId} {l:List Nat} {v:AV},pS P t (.str l) v=CT (fF P t) l v (RI P t (.str l) v))/\(∀ {l:List Nat} {k:IntKind} {i:Int} {d:Option AV},0<=i->i<l.length->CT (some 0) l (.int k i) d=some (.int .u8 ((l.getD i.toNat 0:Nat):Int)))/\
 (∀ {P:Program} {t:TypeId} {l:List AV} {c:Bool} {v:AV},bP P t (.fz l c) v=tU (qC P t) l v (eG P t (.fz l c) v))/\
 (∀ {P:Program} {t:TypeId} {id g off len:Nat} {c:ACap} {v:AV},bP P t (.sl id g off len c) v=UQ (qC P t) id g off len v (eG P t (.sl id g off len c) v))/\(∀ {k id g off len:Nat} {q:IntKind} {i:Int} {d:Option AV},0<=i->i<len->UQ (some k) id g off len (.int q i) d=some (.ptr id g (off+i.toNat*k)))/\
 (∀ {P:Program} {t:TypeId} {id g off:Nat} {v:AV},bP P t (.ptr id g off) v=UR (LU P t) id g off v (eG P t (.ptr id g off) v))/\(∀ {n id g off:Nat} {k:Option Nat} {q:IntKind} {i:Int} {d:Option AV},0<=i->i<n->UR (some (n,k)) id g off (.int q i) d=some (.ptr id g (off+i.toNat*iU k)))/\
 (∀ {P:Program} {t:TypeId} {l:List Nat} {lo hi:Option AV},eQ P t (.str l) lo hi none=tV (fF P t) l lo hi (sF P t (.str l) lo hi none))/\
 (∀ {l:List Nat} {j k:IntKind} {a b:Int} {d:Option AV},0<=a->a<=b->b<=l.length->tV (some 0) l (some (.int j a)) (some (.int k b)) d=some (.str (aZ l a.toNat (b.toNat-a.toNat))))/\
 (∀ {l:List Nat} {j:IntKind} {a:Int} {d:Option AV},0<=a->a<=l.length->tV (some 0) l (some (.int j a)) none d=some (.str (l.drop a.toNat)))/\(∀ {l:List Nat} {k:IntKind} {b:Int} {d:Option AV},0<=b->b<=l.length->tV (some 0) l none (some (.int k b)) d=some (.str (l.take b.toNat)))/\
 (∀ {P:Program} {s:Sto} {src dst:TypeId} {v:AV},iB P s src dst v=cvC (LS P src dst) s v (aAm P s src dst v))/\(∀ {s:Sto} {k j:IntKind} {n:Int} {d:Option ORes},cvC (some (.int k)) s (.int j n) d=some (.val (.int k (k.wrap n))))/\(∀ {s:Sto} {l:List Nat} {d:Option ORes},cvC (some .str) s (.str l) d=some (.val (.str l)))/\
 (∀ {s:Sto} {l:List Nat} {d:Option ORes},cvC (some .bytes) s (.str l) d=some (.val' (.sl s.n 0 0 l.length (.room 1)) (s.push (ob (eR l)))))/\
 (∀ {P:Program} {t:TypeId} {parts:List (Nat × AV)},nK P t parts=bdC (lG P t) parts (RK P t parts))/\(∀ {z:List AV} {ps:List (Nat × Nat)} {parts:List (Nat × AV)} {d:Option AV},bdC (some (.struct z ps)) parts d=(eC (fun i=>ps[i]?) z parts).map .agg)/\(∀ {z:List AV} {k:Nat} {parts:List (Nat × AV)} {d:Option AV},bdC (some (.array z k)) parts d=(eC (fun i=>some (i*k,k)) z parts).map .agg)/\
 (∀ {place:Nat->Option (Nat × Nat)} {cells:List AV},eC place cells []=some cells)/\(∀ {place:Nat->Option (Nat × Nat)} {i:Nat} {v:AV} {cells:List AV} {rest:List (Nat × AV)},eC place cells ((i,v)::rest)=uZ place (place i) v cells rest)/\
 (∀ {place:Nat->Option (Nat × Nat)} {off:Nat} {v:AV} {cells:List AV} {rest:List (Nat × AV)},v.isCell=true->off<cells.length->uZ place (some (off,1)) v cells rest=eC place (cells.set off v) rest)/\
 (∀ {place:Nat->Option (Nat × Nat)} {off n:Nat} {vs cells:List AV} {rest:List (Nat × AV)},vs.length=n->vs.all AV.isCell=true->off+n<=cells.length->uZ place (some (off,n)) (.agg vs) cells rest=eC place (dF cells off vs) rest)/\
 (∀ {P:Program} {O:bN} {t:TypeId} {len:Nat} {parts:Array (Nat × Operand)} {e:Env} {K:ORes->Prop},dH P O (.buildSlice t len parts) e K↔bsC (yU P t) len (parts.toList.map fun p=>(p.1,e.eval p.2)) e.s K (aNe P O (.buildSlice t len parts) e K))/\
 (∀ {k:Nat} {z:List AV} {len:Nat} {parts:List (Nat × AV)} {s:Sto} {K:ORes->Prop} {d:Prop},bsC (some (k,z)) len parts s K d=(len*k<=16777216/\bsF (eC (fun i=>some (i*k,k)) (cQ z len) parts) len s K))/\
 (∀ {cs:List AV} {len:Nat} {s:Sto} {K:ORes->Prop},bsF (some cs) len s K↔cs.all AV.isCell=true/\K (.val' (.sl s.n 0 0 len (.is len)) (s.push (ob cs))))/\(∀ {z:List AV},cQ z 0=[])/\(∀ {z:List AV} {n:Nat},cQ z (n+1)=z++cQ z n)/\
 (∀ {P:Program} {s:Sto} {t u:TypeId} {x y:AV},aV P s .append [t,u].toArray [x,y]=apC (yH P t u) s x y (oC P s .append [t,u].toArray [x,y]))/\(∀ {k by_:Nat} {s:Sto} {v y:AV} {d:Option ORes},apC (some (k,by_)) s v y d=apF s k by_ v (yV s k y))/\
 (∀ {s:Sto} {k id g off len:Nat} {c:ACap},yV s k (.sl id g off len c)=apO (s.get id) g off (len*k) len)/\(∀ {g off m n:Nat} {cs:List AV},off+m<=cs.length->(aZ cs off m).all AV.isCell=true->apO (some (aU g cs)) g off m n=some (n,aZ cs off m))/\(∀ {cs:List AV} {m:Nat},m=cs.length->aZ cs 0 m=cs)/\
 (∀ {s:Sto} {k:Nat},yV s k .nils=some (0,[]))/\(∀ {s:Sto} {l:List Nat},yV s 1 (.str l)=some (l.length,eR l))/\
 (∀ {s:Sto} {k by_ n:Nat} {new:List AV},n≠0->((2*n+1024)*by_<=281474976710656/\n<4611686018427387904)->new.all AV.isCell=true->apF s k by_ .nils (some (n,new))=some (.val' (.sl s.n 0 0 n (.room k)) (s.push (ob new))))/\
 (∀ {s:Sto} {k by_ id g len n:Nat} {new:List AV},apF s k by_ (.sl id g 0 len (.room k)) (some (n,new))=apR s (s.get id) id g len k by_ n new)/\
 (∀ {s:Sto} {id g len k by_ n:Nat} {cs new:List AV},cs.length=len*k->new.length=n*k->((2*(len+n)+1024)*by_<=281474976710656/\len+n<4611686018427387904)->apR s (some (aU g cs)) id g len k by_ n new=some (.val' (.sl id (g+1) 0 (len+n) (.room k)) (s.put id (aU (g+1) (cs++new))))):=
 ⟨aFv,rfl,aAh,rfl,UP,RF,RG,GM,rfl,aAi,rfl,rfl,aFw,BF,aJv,rfl,rfl,rfl,rfl,aAl,zG,rE,BG,aFx,yT,aFy,JP,US,GN,aFz,aGa,rfl,rfl,rfl,
  aAo,rfl,rfl,rfl,OC,UT,UU,BH,rfl,aAp,rfl,rfl,aAq,rfl,aJw,aGb,BI,aAr,aGc,vA,oD,sH⟩
def Sl (a:AV) (xs:List AV):Prop:=(a=.nils/\xs=[]∨∃ c,a=.fz xs c)/\xs.length<=9223372036854775807
theorem Sl.cell {a:AV} {xs:List AV} (h:Sl a xs):a.isCell=true:=by
 rcases h.1 with ⟨rfl,_⟩ | ⟨c,rfl⟩<;>rfl
theorem Sl.len {a:AV} {xs:List AV} (h:Sl a xs) {s:Sto} {d:Option ORes}:uX (some 1) s a d=some (.val (.int .i64 (xs.length:Nat))):=by
 rcases h.1 with ⟨rfl,rfl⟩ | ⟨c,rfl⟩<;>rfl
theorem Sl.idx {a:AV} {xs:List AV} (h:Sl a xs) {P:Program} {t:TypeId} {v:AV}:bP P t a v=tU (qC P t) xs v (eG P t a v):=by
 rcases h.1 with ⟨rfl,rfl⟩ | ⟨c,rfl⟩
 ·cases hk:qC P t with
  | none=>rfl
  | some k=>
    have h1:tU (some k) [] v (eG P t .nils v)=none:=by
     simp only [tU,List.length_nil]
     cases pQ v 0<;>rfl
    rw [h1]
    simp only [bP]
    cases P.underlying t with
    | none=>rfl
    | some d=>cases d<;>rfl
 ·exact rE
theorem rF {n:Nat} {a:AV} {xs:List AV} (h:Sl a xs) (hx:∀ x∈xs,UnderE n x):UnderE n a:=by
 rcases h.1 with ⟨rfl,_⟩ | ⟨c,rfl⟩
 ·exact ⟨1,rfl⟩
 ·exact UX hx
end
end Go.Abs
