/-
  A deterministic abstract machine over the model's own code: definitions.
-/
import Derived.AtR
import Derived.Orders
set_option linter.unusedVariables false
set_option linter.unusedSimpArgs false
namespace Go.Abs
noncomputable section
inductive Tr (α:Type) where
 | leaf
 | node (v:Option α) (l r:Tr α)
def Tr.get {α:Type} (t:Tr α):Nat->Option α:=
 @Tr.rec α (fun _=>Nat->Option α) (fun _=>none) (fun v _ _ gl gr i=>@Bool.rec (fun _=>Option α) (@Bool.rec (fun _=>Option α) (gr (Nat.sub (Nat.div i 2) 1)) (gl (Nat.div i 2)) (Nat.beq (Nat.mod i 2) 1)) v (Nat.beq i 0)) t
def Tr.setF {α:Type} (f:Nat):Tr α->Nat->Option α->Tr α:=
 @Nat.rec (fun _=>Tr α->Nat->Option α->Tr α) (fun t _ _=>t)
  (fun _ ih t i a=>@Tr.rec α (fun _=>Tr α)
    (@Bool.rec (fun _=>Tr α) (@Bool.rec (fun _=>Tr α) (.node none .leaf (ih .leaf (Nat.sub (Nat.div i 2) 1) a)) (.node none (ih .leaf (Nat.div i 2) a) .leaf) (Nat.beq (Nat.mod i 2) 1)) (.node a .leaf .leaf) (Nat.beq i 0))
    (fun v l r _ _=>@Bool.rec (fun _=>Tr α) (@Bool.rec (fun _=>Tr α) (.node v l (ih r (Nat.sub (Nat.div i 2) 1) a)) (.node v (ih l (Nat.div i 2) a) r) (Nat.beq (Nat.mod i 2) 1)) (.node a l r) (Nat.beq i 0)) t) f
def Tr.set {α:Type} (t:Tr α) (i:Nat) (a:α):Tr α:=Tr.setF (i+1) t i (some a)
def Tr.del {α:Type} (t:Tr α) (i:Nat):Tr α:=Tr.setF (i+1) t i none
def Tr.lay {α:Type}:Tr α->Nat->List α->Tr α
 | t,_,[]=>t
 | t,i,a::l=>Tr.lay (t.set i a) (i+1) l
def Tr.row {α:Type} (t:Tr α):(i n:Nat)->Option (List α)
 | _,0=>some []
 | i,n+1=>match t.get i with
   | none=>none
   | some a=>match t.row (i+1) n with
     | none=>none
     | some l=>some (a::l)
inductive ACap where
 | is (c:Nat)
 | room (k:Nat)
 | least (k c:Nat)
inductive AV where
 | top
 | bool (b:Bool)
 | int (k:IntKind) (n:Int)
 | str (s:List Nat)
 | nilp
 | ptr (id gen off:Nat)
 | pf (v:AV)
 | nils
 | sl (id gen off len:Nat) (cap:ACap)
 | fz (l:List AV) (clip:Bool)
 | nilm
 | map (id:Nat)
 | func (fn:Fn) (first captured:List AV)
 | nilf
 | iface (t:TypeId) (v:AV)
 | nili
 | agg (cs:List AV)
 | tuple (vs:List AV)
def AV.undef:AV:=.tuple []
def AV.cells:AV->List AV
 | .agg cs=>cs
 | v=>[v]
def AV.isCell:AV->Bool
 | .top | .agg _ | .tuple _=>false
 | _=>true
inductive ADef where
 | call (fv:AV) (args:List AV)
 | collected (id:Nat)
inductive AObj where
 | cells (gen n:Nat) (c:Tr AV)
 | map (es:List (AV × AV × Nat)) (clock:Nat)
 | siter (s:List Nat) (pos:Nat)
 | loop (state:LoopState) (pending:Option Code) (fn:FuncId) (nt:Nat) (t:Tr AV) (params:List Nat) (assign body:Code) (defers:Nat)
 | defs (ds:Option (List ADef))
structure Sto where
 n:Nat
 low:Nat
 o:Tr AObj
def Sto.get (s:Sto) (i:Nat):Option AObj:=bif Nat.blt i s.n then s.o.get i else none
def Sto.push (s:Sto) (x:AObj):Sto:={n:=s.n+1,low:=s.low,o:=s.o.set s.n x}
def Sto.put (s:Sto) (i:Nat) (x:AObj):Sto:={n:=s.n,low:=bif Nat.blt i s.low then i else s.low,o:=s.o.set i x}
inductive ARec where
 | no
 | pan (v:AV)
 | recd (v:AV)
structure Env where
 nt:Nat
 ro:Option Nat
 fn:FuncId
 t:Tr AV
 ds:List ADef
 s:Sto
 r:ARec
inductive Ex where
 | normal
 | exit (id:Nat)
 | goto (l:Nat)
 | ret
 | panic (v:AV)
inductive CRes where
 | ret (v:AV) (s:Option Sto)
 | pan (v:AV) (s:Option Sto)
abbrev aY:=AV->List AV->Sto->ARec->Option (CRes × ARec)
inductive ORes where
 | val (v:AV)
 | val' (v:AV) (s:Sto)
 | pan (v:AV) (s:Sto)
 | defer (d:ADef)
 | recov
def JP:List Value->Option (List AV)
 | []=>some []
 | v::l=>match (match v with
    | .bool b=>some (AV.bool b)
    | .int k n=>some (AV.int k n)
    | .string s=>some (AV.str (s.data.toList.map (·.toNat)))
    | .pointer none=>some AV.nilp
    | .slice none 0 0=>some AV.nils
    | .map none=>some AV.nilm
    | .nilFunc=>some AV.nilf
    | .nilIface=>some AV.nili
    | _=>none) with
   | none=>none
   | some a=>match JP l with
     | none=>none
     | some r=>some (a::r)
def xO:Value->AV
 | .agg cs=>match JP cs.toList with
   | some l=>.agg l
   | none=>.top
 | v=>match JP [v] with
   | some [a]=>a
   | _=>.top
def Env.eval (e:Env):Operand->AV
 | .tmp t=>match e.t.get t with
   | some v=>v
   | none=>.top
 | .const v=>xO v
 | .global _=>.top
 | .func f=>.func (.func f) [] []
def Env.put (e:Env) (dst:Option Tmp) (v:AV):Option Env:=
 match dst with
 | none=>some e
 | some d=>match e with
   | ⟨nt,ro,fn,t,ds,s,r⟩=>bif Nat.blt d nt then some ⟨nt,ro,fn,t.set d v,ds,s,r⟩ else none
def Env.setS (e:Env) (s':Sto):Env:=match e with
 | ⟨nt,ro,fn,t,ds,_,r⟩=>⟨nt,ro,fn,t,ds,s',r⟩
def Env.setDs (e:Env) (ds':List ADef):Env:=match e with
 | ⟨nt,ro,fn,t,_,s,r⟩=>⟨nt,ro,fn,t,ds',s,r⟩
def Env.setR (e:Env) (r':ARec):Env:=match e with
 | ⟨nt,ro,fn,t,ds,s,_⟩=>⟨nt,ro,fn,t,ds,s,r'⟩
section types
variable (P:Program)
def lC (t:TypeId):Option Nat:=(P.info? t).map (·.size)
def kR (t:TypeId):Option Nat:=(P.info? t).map (·.bytes)
def tI:TypeDesc->Bool
 | .struct _ | .array _ _=>true
 | _=>false
def qB (t:TypeId):Option Bool:=(P.underlying t).map tI
def aS (t:TypeId):Option AV:=
 match (P.info? t).bind (·.zero) with
 | some v=>match xO v with
   | .top=>none
   | a=>some a
 | none=>none
end types
def cM {α:Type} (f:α->α->Bool):List α->List α->Bool
 | [],[]=>true
 | a::l,b::m=>f a b&&cM f l m
 | _,_=>false
def jF:Int->Int->Bool
 | .ofNat a,.ofNat b=>Nat.beq a b
 | .negSucc a,.negSucc b=>Nat.beq a b
 | _,_=>false
def DV:ACap->ACap->Bool
 | .is a,.is b=>Nat.beq a b
 | .room a,.room b=>Nat.beq a b
 | .least a c,.least b d=>Nat.beq a b&&Nat.beq c d
 | _,_=>false
def TM (a b:Fn):Bool:=decide (a=b)
def AV.beq:Nat->AV->AV->Bool
 | 0,_,_=>false
 | d+1,a,b=>match a,b with
   | .bool a,.bool b=>a==b
   | .int j a,.int k b=>decide (j=k)&&jF a b
   | .str a,.str b=>cM Nat.beq a b
   | .nilp,.nilp | .nils,.nils | .nilm,.nilm | .nilf,.nilf | .nili,.nili=>true
   | .ptr i g o,.ptr i' g' o'=>Nat.beq i i'&&Nat.beq g g'&&Nat.beq o o'
   | .pf v,.pf w=>AV.beq d v w
   | .sl i g o n c,.sl i' g' o' n' c'=>Nat.beq i i'&&Nat.beq g g'&&Nat.beq o o'&&Nat.beq n n'&&DV c c'
   | .fz l c,.fz m c'=>cM (AV.beq d) l m&&(c==c')
   | .map i,.map j=>Nat.beq i j
   | .func f a c,.func g b e=>TM f g&&cM (AV.beq d) a b&&cM (AV.beq d) c e
   | .iface t v,.iface u w=>Nat.beq t u&&AV.beq d v w
   | .agg a,.agg b=>cM (AV.beq d) a b
   | .tuple a,.tuple b=>cM (AV.beq d) a b
   | _,_=>false
section ops
variable (P:Program)
def aJ {α:Type} (l:List α) (i n:Nat):List α:=(l.drop i).take n
def gF (t:TypeId) (cs:List AV) (off:Nat):Option AV:=
 match qB P t,lC P t with
 | some true,some n=>bif Nat.ble (off+n) cs.length then some (.agg (aJ cs off n)) else none
 | some false,_=>cs[off]?
 | _,_=>none
def cN (s:Sto) (t:TypeId):AV->Option AV
 | .ptr id g off=>match s.get id with
   | some (.cells g' n c)=>bif Nat.beq g g' then
    match qB P t,lC P t with
    | some true,some k=>bif Nat.ble (off+k) n then (match c.row off k with | some l=>some (.agg l) | none=>none) else none
    | some false,_=>bif Nat.blt off n then c.get off else none
    | _,_=>none
     else none
   | _=>none
 | .pf v=>match qB P t,lC P t,v with
   | some true,some k,.agg cs=>bif Nat.beq cs.length k then some v else none
   | some false,_,v=>bif v.isCell then some v else none
   | _,_,_=>none
 | _=>none
def gI (s:Sto) (t:TypeId) (a v:AV):Option Sto:=
 match a with
 | .ptr id g off=>match s.get id,lC P t with
   | some (.cells g' n c),some k=>bif Nat.beq g g'&&Nat.ble (off+k) n&&Nat.beq v.cells.length k&&v.cells.all AV.isCell then
    some (s.put id (.cells g' n (c.lay off v.cells)))
     else none
   | _,_=>none
 | _=>none
def jG (s:Sto) (cs:List AV):Option (Nat × Sto):=
 bif cs.all AV.isCell then some (s.n,s.push (.cells 0 cs.length (Tr.leaf.lay 0 cs))) else none
def cV (place:Nat->Option (Nat × Nat)) (cells:List AV):List (Nat × AV)->Option (List AV)
 | []=>some cells
 | (i,v)::rest=>match place i with
   | none=>none
   | some (off,size)=>
     bif Nat.beq v.cells.length size&&Nat.ble (off+size) cells.length&&v.cells.all AV.isCell then cV place (cells.take off++v.cells++cells.drop (off+size)) rest
     else none
def dG (cs:List AV):Nat->List AV
 | 0=>[]
 | n+1=>cs++dG cs n
def kS:List Field->Option (List (Nat × Nat))
 | []=>some []
 | f::l=>match lC P f.type with
   | none=>none
   | some n=>match kS l with
     | none=>none
     | some r=>some ((f.offset,n)::r)
def jH (t:TypeId) (parts:List (Nat × AV)):Option AV:=
 match aS P t,P.underlying t with
 | some z,some (.struct fields)=>match kS P fields.toList with
   | some ps=>match cV (fun i=>ps[i]?) z.cells parts with
     | some cs=>some (.agg cs)
     | none=>none
   | none=>none
 | some z,some (.array _ elem)=>match lC P elem with
   | some k=>match cV (fun i=>some (i*k,k)) z.cells parts with
     | some cs=>some (.agg cs)
     | none=>none
   | none=>none
 | _,_=>none
def kT (v:AV) (len:Nat):Option Nat:=
 match v with
 | .int _ (.ofNat i)=>bif Nat.blt i len then some i else none
 | _=>none
def cW (v:Option AV) (dflt most:Nat):Option Nat:=
 match v with
 | none=>some dflt
 | some (.int _ (.ofNat i))=>bif Nat.ble i most then some i else none
 | _=>none
def rL (len:Nat):ACap->Nat
 | .is c=>c
 | .room _=>len
 | .least _ c=>c
def qC (k len c:Nat):ACap:=bif Nat.beq len c then .room k else .least k c
def mX (k:Nat) (x:AV) (lo hi mx:Option AV):Option AV:=
 match x,mx with
 | .nils,none=>match cW hi 0 0 with
   | some h=>match cW lo 0 h with
     | some _=>some .nils
     | none=>none
   | none=>none
 | .nils,some m=>match cW (some m) 0 0,hi with
   | some c,some h=>match cW (some h) 0 c with
     | some h=>match cW lo 0 h with
       | some _=>some .nils
       | none=>none
     | none=>none
   | _,_=>none
 | .fz xs c,none=>match cW hi xs.length xs.length with
   | some h=>match cW lo 0 h with
     | some l=>bif xs.all (fun v=>Nat.beq v.cells.length k) then some (.fz (aJ xs l (h-l)) (c&&Nat.beq h xs.length)) else none
     | none=>none
   | none=>none
 | .fz xs _,some m=>match cW (some m) 0 xs.length,hi with
   | some c',some h=>match cW (some h) 0 c' with
     | some h=>match cW lo 0 h with
       | some l=>bif xs.all (fun v=>Nat.beq v.cells.length k) then some (.fz (aJ xs l (h-l)) (Nat.beq h c')) else none
       | none=>none
     | none=>none
   | _,_=>none
 | .sl id g off len (.is c),none=>match cW hi len c with
   | some h=>match cW lo 0 h with
     | some l=>some (bif Nat.beq c l then .sl id g off (h-l) (.is (c-l)) else .sl id g (off+l*k) (h-l) (.is (c-l)))
     | none=>none
   | none=>none
 | .sl id g off len (.room r),none=>match cW hi len len with
   | some h=>match cW lo 0 h with
     | some l=>bif Nat.beq k r then (bif Nat.blt l len then some (.sl id g (off+l*k) (h-l) (qC r (h-l) (len-l))) else some (.fz [] false)) else none
     | none=>none
   | none=>none
 | .sl id g off len (.least r c),none=>match cW hi len c with
   | some h=>match cW lo 0 h with
     | some l=>bif Nat.beq k r then (bif Nat.blt l c then some (.sl id g (off+l*k) (h-l) (qC r (h-l) (c-l))) else none) else none
     | none=>none
   | none=>none
 | .sl id g off len c,some m=>match cW (some m) 0 (rL len c),hi with
   | some c',some h=>match cW (some h) 0 c' with
     | some h=>match cW lo 0 h with
       | some l=>some (bif Nat.beq c' l then .sl id g off (h-l) (.is (c'-l)) else .sl id g (off+l*k) (h-l) (.is (c'-l)))
       | none=>none
     | none=>none
   | _,_=>none
 | _,_=>none
def dX (t:TypeId) (x:AV) (lo hi mx:Option AV):Option AV:=
 match P.underlying t with
 | some .string=>match x,mx with
   | .str s,none=>match cW hi s.length s.length with
     | some h=>match cW lo 0 h with
       | some l=>some (.str (aJ s l (h-l)))
       | none=>none
     | none=>none
   | _,_=>none
 | some (.slice e)=>match lC P e with
   | some k=>mX k x lo hi mx
   | none=>none
 | some (.array n e)=>match x,mx,lC P e with
   | .ptr id g off,none,some k=>match cW hi n n with
     | some h=>match cW lo 0 h with
       | some l=>some (bif Nat.beq n l then .sl id g off (h-l) (.is (n-l)) else .sl id g (off+l*k) (h-l) (.is (n-l)))
       | none=>none
     | none=>none
   | _,_,_=>none
 | _=>none
def mY (t:TypeId) (cs:List AV) (off:Nat):Option AV:=
 match gF P t cs off with
 | some v=>(match qB P t with
   | some true=>some (.pf v)
   | _=>bif v.isCell then some (.pf v) else none)
 | none=>none
def bA (t:TypeId) (a:AV) (f:Nat):Option AV:=
 match P.underlying t with
 | some (.struct fields)=>match fields[f]? with
   | some fd=>match lC P fd.type,a with
     | some (_+1),.ptr id g off=>some (.ptr id g (off+fd.offset))
     | some (_+1),.pf (.agg cs)=>mY P fd.type cs fd.offset
     | _,_=>none
   | none=>none
 | _=>none
def jI (t:TypeId) (x:AV) (f:Nat):Option AV:=
 match P.underlying t,x with
 | some (.struct fields),.agg cs=>match fields[f]? with
   | some fd=>gF P fd.type cs fd.offset
   | none=>none
 | _,_=>none
def bB (t:TypeId) (x i:AV):Option AV:=
 match P.underlying t,x with
 | some (.array len e),.ptr id g off=>match kT i len,lC P e with
   | some i,some k=>some (.ptr id g (off+i*k))
   | _,_=>none
 | some (.array len e),.pf (.agg cs)=>match kT i len,lC P e with
   | some i,some k=>mY P e cs (i*k)
   | _,_=>none
 | some (.slice e),.sl id g off len _=>match kT i len,lC P e with
   | some i,some k=>some (.ptr id g (off+i*k))
   | _,_=>none
 | some (.slice e),.fz xs _=>match kT i xs.length,lC P e with
   | some i,some k=>match xs[i]? with
     | some v=>bif Nat.beq v.cells.length k then some (.pf v) else none
     | none=>none
   | _,_=>none
 | _,_=>none
def kU (t:TypeId) (x i:AV):Option AV:=
 match P.underlying t,x with
 | some (.array len e),.agg cs=>match kT i len,lC P e with
   | some i,some k=>gF P e cs (i*k)
   | _,_=>none
 | some .string,.str s=>match kT i s.length with
   | some i=>match s[i]? with
     | some b=>some (.int .u8 (.ofNat b))
     | none=>none
   | none=>none
 | _,_=>none
def aeqs (f:TypeId->AV->AV->Option Bool) (xs ys:List AV):List (TypeId × Nat)->Option Bool
 | []=>some true
 | (t,off)::rest=>match gF P t xs off,gF P t ys off with
   | some x,some y=>match f t x y with
     | some true=>aeqs f xs ys rest
     | some false=>some false
     | none=>none
   | _,_=>none
def DW (fields:Array Field):List (TypeId × Nat):=
 (fields.toList.filter fun f=>f.name != "_").map fun f=>(f.type,f.offset)
def jW (e k:Nat):(n i:Nat)->List (TypeId × Nat)
 | 0,_=>[]
 | n+1,i=>(e,i*k)::jW e k n (i+1)
def OO:Option TypeDesc->AV->AV->Option Bool
 | some (.slice _),.nils,.fz _ _ | some (.slice _),.fz _ _,.nils=>some false
 | _,_,_=>none
def AS:Nat->TypeId->AV->AV->Option Bool
 | 0,_,_,_=>none
 | d+1,t,x,y=>match P.underlying t,x,y with
   | some .bool,.bool a,.bool b=>some (a==b)
   | some (.int _),.int k a,.int k' b=>bif decide (k=k') then some (jF a b) else none
   | some .string,.str a,.str b=>some (cM Nat.beq a b)
   | some (.pointer _),.nilp,.nilp=>some true
   | some (.pointer _),.nilp,.ptr _ _ _ | some (.pointer _),.ptr _ _ _,.nilp=>some false
   | some (.pointer _),.nilp,.pf _ | some (.pointer _),.pf _,.nilp=>some false
   | some (.slice _),.nils,.nils=>some true
   | some (.slice _),.nils,.sl _ _ _ _ _ | some (.slice _),.sl _ _ _ _ _,.nils=>some false
   | some (.map _ _),.nilm,.nilm=>some true
   | some (.map _ _),.nilm,.map _ | some (.map _ _),.map _,.nilm=>some false
   | some (.func _ _ _),.nilf,.nilf=>some true
   | some (.func _ _ _),.nilf,.func _ _ _ | some (.func _ _ _),.func _ _ _,.nilf=>some false
   | some (.interface _),.nili,.nili=>some true
   | some (.interface _),.nili,.iface _ _ | some (.interface _),.iface _ _,.nili=>some false
   | some (.struct fields),.agg xs,.agg ys=>
     bif P.stoodInHeld t then none else aeqs P (AS d) xs ys (DW fields)
   | some (.array n e),.agg xs,.agg ys=>match lC P e with
     | some k=>aeqs P (AS d) xs ys (jW e k n 0)
     | none=>none
   | u,x,y=>OO u x y
def jJ (op:BinOp) (t:TypeId) (x y:Operand) (a b:AV):Bool:=
 match op,a,b with
 | .eql,.nili,.nili | .neq,.nili,.nili=>(match x with | .const _=>true | _=>false)||(match y with | .const _=>true | _=>false)
 | .eql,.agg _,.agg _ | .neq,.agg _,.agg _=>!P.eqGuardType P.depth t
 | _,_,_=>true
def gR:List Nat->List Nat->Bool
 | _,[]=>false
 | [],_::_=>true
 | a::x,b::y=>Nat.blt a b||(Nat.beq a b&&gR x y)
def qD (op:BinOp) (x y:List Nat):Option AV:=
 match op with
 | .add=>bif Nat.blt (x.length+y.length) 9223372036854775808 then some (.str (x++y)) else none
 | .eql=>some (.bool (cM Nat.beq x y))
 | .neq=>some (.bool (!cM Nat.beq x y))
 | .lss=>some (.bool (gR x y))
 | .leq=>some (.bool (gR x y||cM Nat.beq x y))
 | .gtr=>some (.bool (!(gR x y||cM Nat.beq x y)))
 | .geq=>some (.bool (!gR x y))
 | _=>none
def xG {α:Type} (n:Int) (k:Int->α):α:=
 match n with
 | .ofNat m=>(match m with | 0=>k (.ofNat 0) | j+1=>k (.ofNat (j+1)))
 | .negSucc m=>(match m with | 0=>k (.negSucc 0) | j+1=>k (.negSucc (j+1)))
def gK (k:IntKind) (n:Int):Option AV:=xG n fun m=>some (.int k m)
def WH {α:Type} (b:Bool) (k:Bool->α):α:=match b with | true=>k true | false=>k false
def nQ (b:Bool):Option AV:=WH b fun b=>some (.bool b)
def fJ (op:BinOp) (k:IntKind) (a b:Int):Option AV:=
 match op with
 | .add=>gK k (k.wrap (a+b))
 | .sub=>gK k (k.wrap (a-b))
 | .mul=>gK k (k.wrap (a*b))
 | .quo=>bif decide (b=0) then none else gK k (k.wrap (a.tdiv b))
 | .rem=>bif decide (b=0) then none else gK k (a.tmod b)
 | .and=>gK k (k.wrap (BitVec.ofInt k.bits a &&& BitVec.ofInt k.bits b).toNat)
 | .or=>gK k (k.wrap (BitVec.ofInt k.bits a ||| BitVec.ofInt k.bits b).toNat)
 | .xor=>gK k (k.wrap (BitVec.ofInt k.bits a ^^^ BitVec.ofInt k.bits b).toNat)
 | .andNot=>gK k (k.wrap (BitVec.ofInt k.bits a &&& ~~~BitVec.ofInt k.bits b).toNat)
 | .eql=>nQ (jF a b)
 | .neq=>nQ (!jF a b)
 | .lss=>nQ (decide (a<b))
 | .leq=>nQ (decide (a<=b))
 | .gtr=>nQ (decide (b<a))
 | .geq=>nQ (decide (b<=a))
 | _=>none
def bO (op:BinOp) (t:TypeId) (x y:Operand) (a b:AV):Option AV:=
 match op,a,b with
 | .shl,.int k a,.int _ b=>bif decide (b<0) then none else gK k (k.wrap (a*2 ^ (min b.toNat k.bits)))
 | .shr,.int k a,.int _ b=>bif decide (b<0) then none else gK k (a.fdiv (2 ^ (min b.toNat k.bits)))
 | op,.int k a,.int k' b=>bif decide (k=k') then fJ op k a b else none
 | op,.str a,.str b=>qD op a b
 | .eql,a,b=>bif jJ P .eql t x y a b then (match AS P 10000 t a b with | some r=>some (.bool r) | none=>none) else none
 | .neq,a,b=>bif jJ P .neq t x y a b then (match AS P 10000 t a b with | some r=>some (.bool (!r)) | none=>none) else none
 | _,_,_=>none
def SK (op:UnOp) (a:AV):Option AV:=
 match op,a with
 | .neg,.int k n=>gK k (k.wrap (0-n))
 | .xor,.int k n=>gK k (k.wrap (BitVec.ofInt k.bits (if k.signed then -1 else k.max) ^^^ BitVec.ofInt k.bits n).toNat)
 | .not,.bool b=>some (.bool (!b))
 | _,_=>none
def ofBytes:List AV->Option (List Nat)
 | []=>some []
 | .int .u8 n::l=>match ofBytes l with
   | some r=>some ((n.toNat%256)::r)
   | none=>none
 | _::_=>none
def dH (s:List Nat):List AV:=s.map fun b=>AV.int .u8 (.ofNat b)
def cI (s:Sto) (k n:Nat):AV->Option (List AV)
 | .sl id g off len _=>bif Nat.ble n len then match s.get id with
  | some (.cells g' m c)=>bif Nat.beq g g'&&Nat.ble (off+n*k) m then c.row off (n*k) else none
  | _=>none
   else none
 | .nils=>bif Nat.beq n 0 then some [] else none
 | .fz xs _=>bif Nat.ble n xs.length then
  (let l:=(xs.take n).flatMap AV.cells
   bif (xs.take n).all (fun x=>Nat.beq x.cells.length k)&&l.all AV.isCell then some l else none)
   else none
 | .str b=>bif Nat.ble n b.length&&Nat.beq k 1 then some (dH (b.take n)) else none
 | _=>none
def jX:AV->Option Nat
 | .sl _ _ _ len _=>some len
 | .nils=>some 0
 | .fz xs _=>some xs.length
 | .str s=>some s.length
 | _=>none
def eW (s:Sto) (src dst:TypeId) (x:AV):Option ORes:=
 match P.underlying src,P.underlying dst,x with
 | some _,some (.int k),.int _ n=>match gK k (k.wrap n) with | some v=>some (.val v) | none=>none
 | some _,some .string,.str b=>some (.val (.str b))
 | some _,some (.slice e),.str b=>match P.underlying e with
   | some (.int .u8)=>match jG s (dH b) with
     | some (id,s')=>some (.val' (.sl id 0 0 b.length (.room 1)) s')
     | none=>none
   | _=>none
 | some (.slice e),some .string,x=>match P.underlying e,jX x with
   | some (.int .u8),some n=>match cI s 1 n x with
     | some l=>match ofBytes l with
       | some b=>some (.val (.str b))
       | none=>none
     | none=>none
   | _,_=>none
 | _,_,_=>none
def cX (n by_:Nat):Bool:=Nat.ble ((2*n+1024)*by_) (2 ^ 48)&&Nat.blt n (2 ^ 62)
def eG (s:Sto) (k by_:Nat) (old new:List AV) (len:Nat):Option ORes:=
 bif cX len by_ then match jG s (old++new) with
  | some (id,s')=>some (.val' (.sl id 0 0 len (.room k)) s')
  | none=>none
 else none
def pE (s:Sto) (t:TypeId) (x y:AV):Option ORes:=
 match P.underlying t with
 | some (.slice e)=>match lC P e,kR P e,aS P e,jX y with
   | some k,some by_,some z,some n=>match cI s k n y with
     | none=>none
     | some new=>bif Nat.beq z.cells.length k&&new.all AV.isCell then match x with
       | .nils=>bif Nat.beq n 0 then some (.val .nils) else eG s k by_ [] new n
       | .fz xs true=>bif Nat.beq n 0 then some (.val x) else match cI s k xs.length x with
         | some old=>eG s k by_ old new (xs.length+n)
         | none=>none
       | .sl id g off len (.is c)=>bif Nat.ble (len+n) c then
        match s.get id with
        | some (.cells g' m cs)=>bif Nat.beq g g'&&Nat.ble (off+c*k) m then some (.val' (.sl id g off (len+n) (.is c)) (s.put id (.cells g' m (cs.lay (off+len*k) new)))) else none
        | _=>none
         else match cI s k len x with
          | some old=>eG s k by_ old new (len+n)
          | none=>none
       | .sl id g off len (.room r)=>match s.get id with
         | some (.cells g' m cs)=>bif Nat.beq g g'&&Nat.beq k r&&Nat.beq (off+len*k) m&&cX (len+n) by_ then
          bif Nat.beq off 0 then some (.val' (.sl id (g'+1) 0 (len+n) (.room k)) (s.put id (.cells (g'+1) (m+n*k) (cs.lay m new))))
          else match cs.row off (len*k) with
          | some old=>some (.val' (.sl id (g'+1) 0 (len+n) (.room k)) (s.put id (.cells (g'+1) ((len+n)*k) (Tr.leaf.lay 0 (old++new)))))
          | none=>none
           else none
         | _=>none
       | .sl id g off len (.least r c)=>bif Nat.ble (len+n) c then
        match s.get id with
        | some (.cells g' m cs)=>bif Nat.beq g g'&&Nat.beq k r&&Nat.ble (off+c*k) m then some (.val' (.sl id g off (len+n) (qC k (len+n) c)) (s.put id (.cells g' m (cs.lay (off+len*k) new)))) else none
        | _=>none
         else none
       | _=>none
     else none
   | _,_,_,_=>none
 | _=>none
def tJ (s:Sto) (t:TypeId):AV->AV->Option ORes
 | .nils,.int .i64 (.ofNat n)=>match P.underlying t with
   | some (.slice e)=>match lC P e,kR P e,aS P e with
     | some k,some by_,some z=>bif Nat.blt 0 n&&(Nat.beq z.cells.length k&&Nat.blt 0 k) then eG s k by_ [] (dG z.cells n) n else none
     | _,_,_=>none
   | _=>none
 | _,_=>none
def DX (s:Sto) (t:TypeId):AV->Option ORes
 | .nils=>match P.underlying t with
   | some (.slice _)=>some (.val (.tuple []))
   | _=>none
 | .fz [] _=>match P.underlying t with
   | some (.slice _)=>some (.val (.tuple []))
   | _=>none
 | .sl _ _ _ 0 _=>match P.underlying t with
   | some (.slice _)=>some (.val (.tuple []))
   | _=>none
 | .sl id g off (len+1) _=>match P.underlying t with
   | some (.slice e)=>match lC P e,aS P e,s.get id with
     | some k,some z,some (.cells g' m cs)=>
       bif Nat.beq g g'&&(Nat.beq z.cells.length k&&(Nat.blt 0 k&&Nat.ble (off+(len+1)*k) m)) then some (.val' (.tuple []) (s.put id (.cells g' m (cs.lay off (dG z.cells (len+1)))))) else none
     | _,_,_=>none
   | _=>none
 | _=>none
def OP (s:Sto) (t:TypeId) (x y:AV):Option ORes:=
 match P.underlying t with
 | some (.slice e)=>match lC P e,jX x,jX y with
   | some k,some dn,some sn=>match cI s k (Nat.min sn dn) y with
     | none=>none
     | some new=>match x with
       | .nils=>some (.val (.int .i64 (.ofNat 0)))
       | .sl id g off _ _=>match s.get id with
         | some (.cells g' m cs)=>bif Nat.beq g g'&&Nat.ble (off+Nat.min sn dn*k) m&&new.all AV.isCell then some (.val' (.int .i64 (.ofNat (Nat.min sn dn))) (s.put id (.cells g' m (cs.lay off new)))) else none
         | _=>none
       | _=>none
   | _,_,_=>none
 | _=>none
def gL (k:TypeDesc) (v:AV):Bool:=
 match k,v with
 | .int _,.int _ _ | .string,.str _ | .bool,.bool _=>true
 | _,_=>false
def OQ:AV->AV->Option Bool
 | .int k a,.int k' b=>bif decide (k=k') then some (jF a b) else none
 | .str a,.str b=>some (cM Nat.beq a b)
 | .bool a,.bool b=>some (a==b)
 | _,_=>none
def tK (k:AV):List (AV × AV × Nat)->Nat->Option (Option (Nat × AV))
 | [],_=>some none
 | (k',v,_)::es,i=>match OQ k k' with
   | some true=>some (some (i,v))
   | some false=>tK k es (i+1)
   | none=>none
def WI:List (AV × AV × Nat)->Nat->AV->AV->List (AV × AV × Nat)
 | [],_,_,_=>[]
 | (_,_,b)::es,0,k,v=>(k,v,b)::es
 | e::es,i+1,k,v=>e::WI es i k v
def WJ:List (AV × AV × Nat)->Nat->List (AV × AV × Nat)
 | [],_=>[]
 | _::es,0=>es
 | e::es,i+1=>e::WJ es i
def mC (t:TypeId):Option (TypeDesc × TypeId):=
 match P.underlying t with
 | some (.map k e)=>match P.underlying k with
   | some d=>some (d,e)
   | none=>none
 | _=>none
def fK (s:Sto) (t:TypeId) (m k:AV) (ok:Bool):Option AV:=
 match mC P t with
 | some (d,e)=>bif gL d k then
  match (match m with
   | .nilm=>some none
   | .map id=>match s.get id with
     | some (.map es _)=>tK k es 0
     | _=>none
   | _=>none) with
  | some (some (_,v))=>some (bif ok then .tuple [v,.bool true] else v)
  | some none=>match aS P e with
    | some z=>some (bif ok then .tuple [z,.bool false] else z)
    | none=>none
  | none=>none
   else none
 | none=>none
def eS (s:Sto) (t:TypeId) (m k v:AV):Option Sto:=
 match mC P t,m with
 | some (d,_),.map id=>bif gL d k then match s.get id with
  | some (.map es clock)=>match tK k es 0 with
    | some (some (i,_))=>some (s.put id (.map (WI es i k v) clock))
    | some none=>some (s.put id (.map (es++[(k,v,clock)]) (clock+1)))
    | none=>none
  | _=>none
   else none
 | _,_=>none
def xH (s:Sto) (t:TypeId) (m k:AV):Option Sto:=
 match mC P t,m with
 | some (d,_),.nilm=>bif gL d k then some s else none
 | some (d,_),.map id=>bif gL d k then match s.get id with
  | some (.map es clock)=>match tK k es 0 with
    | some (some (i,_))=>some (s.put id (.map (WJ es i) clock))
    | some none=>some (s.put id (.map es clock))
    | none=>none
  | _=>none
   else none
 | _,_=>none
def cY (e:Env) (xs:Array Operand):List AV:=xs.toList.map e.eval
inductive APl where
 | val (v:AV)
 | var (a:AV)
def APl.get (s:Sto) (t:TypeId):APl->Option AV
 | .val v=>some v
 | .var a=>cN P s t a
def iW (s:Sto):List FieldStep->TypeId->APl->Option (TypeId × APl)
 | [],t,x=>some (t,x)
 | st::rest,t,x=>match P.underlying st.struct with
   | some (.struct fields)=>match fields[st.index]? with
     | some f=>
       bif st.deref then match x.get P s t with
        | some a=>match bA P st.struct a st.index with
          | some b=>iW s rest f.type (.var b)
          | none=>none
        | none=>none
       else match x with
        | .var a=>match bA P st.struct a st.index with
          | some b=>iW s rest f.type (.var b)
          | none=>none
        | .val (.agg cs)=>match gF P f.type cs f.offset with
          | some v=>iW s rest f.type (.val v)
          | none=>none
        | .val _=>none
     | none=>none
   | _=>none
def TN:AV->Bool
 | .ptr _ _ _ | .pf _=>true
 | _=>false
def mZ (s:Sto) (xt:TypeId) (x:APl) (pointer:Bool):Option AV:=
 match P.underlying xt,pointer,x with
 | some (.pointer _),true,x=>x.get P s xt
 | some (.pointer elem),false,x=>match x.get P s xt with
   | some a=>cN P s elem a
   | none=>none
 | some _,true,.var a=>bif TN a then some a else none
 | some _,true,.val _=>none
 | some _,false,x=>x.get P s xt
 | none,_,_=>none
def nA (s:Sto) (t:TypeId) (v:AV) (name:String):Option (FuncId × AV):=
 match P.info? t with
 | some i=>match i.methods.find? (·.name==name) with
   | some m=>match iW P s m.path.toList t (.val v),m.func with
     | some (xt,x),some (f,pointer)=>match mZ P s xt x pointer with
       | some r=>some (f,r)
       | none=>none
     | _,_=>none
   | none=>none
 | none=>none
inductive ATgt where
 | fn (f:FuncId) (args:List AV)
 | round (l:Nat) (args:List AV)
def fZ (s:Sto) (fv:AV) (args:List AV):Option ATgt:=
 match fv with
 | .func (.func f) first cap=>some (.fn f (first++args++cap))
 | .func (.yield l) first _=>some (.round l (first++args))
 | .func (.method name) first _=>match first++args with
   | .iface t v::rest=>match nA P s t v name with
     | some (f,r)=>some (.fn f (r::rest))
     | none=>none
   | _=>none
 | .func (.methodOf t name) first _=>match P.underlying t,first++args with
   | some (.interface _),.iface t' v::rest=>match nA P s t' v name with
     | some (f,r)=>some (.fn f (r::rest))
     | none=>none
   | some (.interface _),_=>none
   | some _,v::rest=>match nA P s t v name with
     | some (f,r)=>some (.fn f (r::rest))
     | none=>none
   | _,_=>none
 | .func (.via t path f pointer) first _=>match first++args with
   | x::rest=>match iW P s path.toList t (.val x) with
     | some (xt,x)=>match mZ P s xt x pointer with
       | some r=>some (.fn f (r::rest))
       | none=>none
     | none=>none
   | []=>none
 | _=>none
def dI (s:Sto):Option (CRes × ARec)->Option ORes
 | some (.ret v none,_)=>some (.val v)
 | some (.ret v (some s'),_)=>some (.val' v s')
 | some (.pan v none,_)=>some (.pan v s)
 | some (.pan v (some s'),_)=>some (.pan v s')
 | none=>none
def valO:Option AV->Option ORes
 | some v=>some (.val v)
 | none=>none
def skipO:Option Sto->Option ORes
 | some s=>some (.val' .undef s)
 | none=>none
def pF (mx:Bool):AV->List AV->Option AV
 | a,[]=>some a
 | .int k a,.int k' b::rest=>bif decide (k=k') then (xG (bif mx then (if b > a then b else a) else (if b<a then b else a)) fun c=>pF mx (.int k c) rest) else none
 | _,_::_=>none
def pG (mx:Bool):List AV->Option AV
 | []=>none
 | a::l=>pF mx a l
def mD (want:Array (String × TypeId)) (got:Array Method):Bool:=(Instr.missingMethod want got).isSome
def aU (s:Sto) (b:Builtin) (ts:Array TypeId) (l:List AV):Option ORes:=
 match b with
 | .len=>match (match ts[0]? with | some t=>P.underlying t | none=>none),l with
   | some .string,[.str s]=>some (.val (.int .i64 (.ofNat s.length)))
   | some (.slice _),[.str _]=>none
   | some (.slice _),[x]=>match jX x with
     | some n=>some (.val (.int .i64 (.ofNat n)))
     | none=>none
   | some (.array n _),[_]=>some (.val (.int .i64 (.ofNat n)))
   | some (.map _ _),[.nilm]=>some (.val (.int .i64 0))
   | some (.map _ _),[.map id]=>match s.get id with
     | some (.map es _)=>some (.val (.int .i64 (.ofNat es.length)))
     | _=>none
   | _,_=>none
 | .append=>match ts.toList,l with
   | [t,u],[x,y]=>match P.underlying u with
     | some (.int _)=>tJ P s t x y
     | some _=>pE P s t x y
     | none=>none
   | _,_=>none
 | .copy=>match ts[0]?,l with
   | some t,[x,y]=>OP P s t x y
   | _,_=>none
 | .delete=>match ts[0]?,l with
   | some t,[m,k]=>(match xH P s t m k with | some s=>some (.val' (.tuple []) s) | none=>none)
   | _,_=>none
 | .min=>valO (pG false l)
 | .max=>valO (pG true l)
 | .recover=>some .recov
 | .panic=>match l with
   | [.iface t v]=>some (.pan (.iface t v) s)
   | _=>none
 | .cap=>match (match ts[0]? with | some t=>P.underlying t | none=>none),l with
   | some (.slice _),[.nils]=>some (.val (.int .i64 0))
   | some (.slice _),[.sl _ _ _ _ (.is c)]=>some (.val (.int .i64 (.ofNat c)))
   | some (.slice _),[.fz xs true]=>some (.val (.int .i64 (.ofNat xs.length)))
   | _,_=>none
 | .clear=>match ts[0]?,l with
   | some t,[x]=>DX P s t x
   | _,_=>none
 | _=>none
def xI (b:List Nat):ByteArray:=⟨(b.map UInt8.ofNat).toArray⟩
def OR (s:Sto) (it:AV) (str:Bool):Option ORes:=bif str then (match it with
 | .ptr id 0 0=>(match s.get id with
   | some (.siter b pos)=>bif Nat.blt pos b.length then some (.val' (.tuple [.bool true,.int .i64 (.ofNat pos),.int .i32 (.ofNat (Utf8.decode (xI b) pos).1)]) (s.put id (.siter b (pos+(Utf8.decode (xI b) pos).2))))
     else some (.val (.tuple [.bool false]))
   | _=>none)
 | _=>none) else none
def eN (call:aY) (o:Oper) (e:Env):Option ORes:=
 match o.op with
 | .move x | .assign x=>some (.val (e.eval x))
 | .pick c a b=>match e.eval c with
   | .bool true=>some (.val (e.eval a))
   | .bool false=>some (.val (e.eval b))
   | _=>none
 | .alloc t=>match aS P t with
   | some z=>match jG e.s z.cells with
     | some (id,s)=>some (.val' (.ptr id 0 0) s)
     | none=>none
   | none=>none
 | .box _ x=>match e.eval x with
   | .top=>none
   | v=>match jG e.s v.cells with
     | some (id,s)=>some (.val' (.ptr id 0 0) s)
     | none=>none
 | .build t parts=>valO (jH P t (parts.toList.map fun p=>(p.1,e.eval p.2)))
 | .buildSlice t len parts=>match P.underlying t with
   | some (.slice el)=>match lC P el with
     | some k=>bif Nat.ble (len*k) (2 ^ 24) then
      match (bif Nat.beq (len*k) 0 then some [] else match aS P el with | some z=>some (dG z.cells len) | none=>none) with
      | some zs=>bif Nat.beq zs.length (len*k) then
       match cV (fun i=>some (i*k,k)) zs (parts.toList.map fun p=>(p.1,e.eval p.2)) with
       | some cs=>match jG e.s cs with
         | some (id,s)=>some (.val' (.sl id 0 0 len (.is len)) s)
         | none=>none
       | none=>none
        else none
      | none=>none
       else none
     | none=>none
   | _=>none
 | .load t a=>valO (cN P e.s t (e.eval a))
 | .store t a x=>skipO (gI P e.s t (e.eval a) (e.eval x))
 | .nilCheck x=>match e.eval x with
   | .ptr i g o=>some (.val (.ptr i g o))
   | .pf v=>some (.val (.pf v))
   | .func (.func f) a c=>some (.val (.func (.func f) a c))
   | .iface t v=>some (.val (.iface t v))
   | _=>none
 | .binOp op t x y _=>valO (bO P op t x y (e.eval x) (e.eval y))
 | .unOp op _ x=>valO (SK op (e.eval x))
 | .convert src dst x=>eW P e.s src dst (e.eval x)
 | .sliceToArrayPointer arr x=>match P.underlying arr,e.eval x with
   | some (.array n _),.sl id g off len _=>bif Nat.ble n len then some (.val (.ptr id g off)) else none
   | _,_=>none
 | .makeInterface t x=>match P.underlying t with
   | some (.interface _)=>none
   | some _=>some (.val (.iface t (e.eval x)))
   | none=>none
 | .makeFunc fn first cap=>match fn with
   | .yield _=>none
   | fn=>some (.val (.func fn (cY e first) (cY e cap)))
 | .makeMap t r=>match (match r with | none=>some true | some h=>match P.underlying t,e.eval h with | some (.map _ _),.int _ _=>some true | _,_=>none) with
   | some _=>some (.val' (.map e.s.n) (e.s.push (.map [] 0)))
   | none=>none
 | .makeSlice t l c=>match P.underlying t,e.eval l,e.eval c with
   | some (.slice el),.int _ (.ofNat l),.int _ (.ofNat c)=>match lC P el,kR P el,aS P el with
     | some k,some by_,some z=>bif Nat.ble l c&&Nat.ble (by_*c) (2 ^ 47)&&Nat.ble c (2 ^ 62)&&Nat.beq z.cells.length k then
      match jG e.s (dG z.cells c) with
      | some (id,s)=>some (.val' (.sl id 0 0 l (.is c)) s)
      | none=>none
       else none
     | _,_,_=>none
   | _,_,_=>none
 | .slice t x lo hi mx=>valO (dX P t (e.eval x) (lo.map e.eval) (hi.map e.eval) (mx.map e.eval))
 | .fieldAddr t x f=>valO (bA P t (e.eval x) f)
 | .field t x f=>valO (jI P t (e.eval x) f)
 | .indexAddr t x i=>valO (bB P t (e.eval x) (e.eval i))
 | .index t x i=>valO (kU P t (e.eval x) (e.eval i))
 | .lookup t m k ok=>valO (fK P e.s t (e.eval m) (e.eval k) ok)
 | .mapUpdate t m k x | .insert t m k x=>skipO (eS P e.s t (e.eval m) (e.eval k) (e.eval x))
 | .range t x=>match P.underlying t,e.eval x with
   | some .string,.str b=>some (.val' (.ptr e.s.n 0 0) (e.s.push (.siter b 0)))
   | _,_=>none
 | .next it str=>OR e.s (e.eval it) str
 | .typeAssert x _ t ok=>match P.underlying t,e.eval x with
   | some (.interface _),.nili=>bif ok then (match aS P t with | some z=>some (.val (.tuple [z,.bool false])) | none=>none) else none
   | some (.interface want),.iface d v=>match P.info? d with
     | some i=>bif mD want i.methods then (bif ok then (match aS P t with | some z=>some (.val (.tuple [z,.bool false])) | none=>none) else none)
      else some (.val (bif ok then .tuple [.iface d v,.bool true] else .iface d v))
     | none=>none
   | some _,.nili=>bif ok then (match aS P t with | some z=>some (.val (.tuple [z,.bool false])) | none=>none) else none
   | some _,.iface d v=>bif Nat.beq d t then some (.val (bif ok then .tuple [v,.bool true] else v))
    else bif ok then (match aS P t with | some z=>some (.val (.tuple [z,.bool false])) | none=>none) else none
   | _,_=>none
 | .extract x i=>match e.eval x with
   | .tuple vs=>valO vs[i]?
   | _=>none
 | .call c=>match c.callee with
   | .builtin b=>aU P e.s b c.argTypes (cY e c.args)
   | .value f=>dI e.s (call (e.eval f) (cY e c.args) e.s .no)
   | .invoke recv name=>dI e.s (call (.func (.method name) [e.eval recv] []) (cY e c.args) e.s .no)
 | .defer c=>match c.callee,e.ro with
   | .value f,none=>match e.eval f with
     | .func fn a b=>some (.defer (.call (.func fn a b) (cY e c.args)))
     | _=>none
   | _,_=>none
 | .panic x=>match e.eval x with
   | .iface t v=>some (.pan (.iface t v) e.s)
   | _=>none
 | _=>none
end ops
def AV.under (n:Nat):Nat->AV->Bool
 | 0,_=>false
 | d+1,v=>match v with
   | .top | .bool _ | .int _ _ | .str _ | .nilp | .nils | .nilm | .nilf | .nili=>true
   | .ptr i _ _ | .sl i _ _ _ _ | .map i=>Nat.blt i n
   | .pf v | .iface _ v=>v.under n d
   | .fz l _ | .agg l | .tuple l=>l.all (AV.under n d)
   | .func f a c=>(match f with | .yield l=>Nat.blt l n | _=>true)&&a.all (AV.under n d)&&c.all (AV.under n d)
def bN (ops:List Oper) (o:Oper) (e:Env):Option Bool:=
 match o.guard with
 | none=>some true
 | some (j,want)=>match (match ops[j]? with | some g=>g.dst | none=>none) with
   | none=>some false
   | some d=>match e.t.get d with
     | some (.bool b)=>some (b==want)
     | some (.tuple _)=>some false
     | _=>none
def eH (P:Program) (call:aY) (ops:List Oper):List Oper->Env->Option (Ex × Env)
 | [],e=>some (.normal,e)
 | o::rest,e=>match bN ops o e with
   | none=>none
   | some false=>match e.put o.dst .undef with
     | some e'=>eH P call ops rest e'
     | none=>none
   | some true=>match eN P call o e with
     | none=>none
     | some (.val v)=>match e.put o.dst v with
       | some e'=>eH P call ops rest e'
       | none=>none
     | some (.val' v s)=>match (e.setS s).put o.dst v with
       | some e'=>eH P call ops rest e'
       | none=>none
     | some (.pan v s)=>some (.panic v,{e with s:=s})
     | some (.defer d)=>match (e.setDs (d::e.ds)).put o.dst .undef with
       | some e'=>eH P call ops rest e'
       | none=>none
     | some .recov=>match e.ro,e.r with
       | none,.pan v=>match (e.setR (.recd v)).put o.dst v with
         | some e'=>eH P call ops rest e'
         | none=>none
       | none,_=>match e.put o.dst .nili with
         | some e'=>eH P call ops rest e'
         | none=>none
       | some _,_=>none
def AL (acc:List Nat) (o:Oper):Nat:=
 o.after.toList.foldl (fun m e=>bif Region.binds .any e then m ||| (2 ^ e.on ||| acc.getD e.on 0) else m) 0
def kV:List Oper->List Nat->List Nat
 | [],acc=>acc
 | o::rest,acc=>kV rest (acc++[AL acc o])
def bH (ops:List Oper):List Nat:=kV ops []
def gJ (ops:List Oper) (o:Oper):List Nat:=
 o.dst.toList++(o.op.operands.toList.filterMap fun | .tmp t=>some t | _=>none)++
  (match o.guard with | some (j,_)=>(match ops[j]? with | some g=>g.dst.toList | none=>[]) | none=>[])
def xJ (o:Oper) (l:List Nat):Bool:=match o.dst with | some d=>l.elem d | none=>false
def DY (ops:List Oper) (as:List Nat) (i:Nat) (oi:Oper) (j:Nat) (oj:Oper):Bool:=
 !(xJ oi (gJ ops oj)||xJ oj (gJ ops oi))||(as.getD j 0).testBit i
def rM (ops:List Oper) (as:List Nat):List Oper->Nat->Bool
 | [],_=>true
 | o::rest,i=>((rest.zipIdx (i+1)).all fun p=>DY ops as i o p.2 p.1)&&rM ops as rest (i+1)
def GB (ops:List Oper):Bool:=ops.zipIdx.all fun p=>p.1.after.toList.all fun e=>!Region.binds .any e||Nat.blt e.on p.2
def OS (ops:List Oper):Bool:=ops.all fun o=>match o.op with | .select ..=>false | _=>true
def iJ (ops:List Oper):Bool:=OS ops&&GB ops&&rM ops (bH ops) ops 0
def dJ:Op->Bool
 | .move _ | .assign _ | .pick _ _ _ | .build _ _ | .nilCheck _ | .binOp _ _ _ _ _ | .unOp _ _ _ | .sliceToArrayPointer _ _ | .makeInterface _ _
 | .makeFunc _ _ _ | .slice _ _ _ _ _ | .fieldAddr _ _ _ | .field _ _ _ | .indexAddr _ _ _ | .index _ _ _ | .typeAssert _ _ _ _ | .extract _ _=>true
 | _=>false
def bX:Op->Bool
 | .alloc _ | .box _ _ | .buildSlice _ _ _ | .makeMap _ _ | .makeSlice _ _ _=>true
 | _=>false
structure TrE where
 i:Nat
 o:Oper
 e:Env
 v:AV
 run:Bool
 chg:Bool
def TrE.isNew (x:TrE):Bool:=x.chg&&bX x.o.op
def TrE.isChg (x:TrE):Bool:=x.chg && !bX x.o.op
abbrev WK:=List TrE × Env × Option (AV × Sto)
def jK (x:TrE):Option WK->Option WK
 | some (l,f,p)=>some (x::l,f,p)
 | none=>none
def rN (P:Program) (call:aY) (ops:List Oper):List Oper->Nat->Env->Option WK
 | [],_,e=>some ([],e,none)
 | o::rest,i,e=>match bN ops o e with
   | none=>none
   | some false=>match e.put o.dst .undef with
     | some e'=>jK {i,o,e,v:=.undef,run:=false,chg:=false} (rN P call ops rest (i+1) e')
     | none=>none
   | some true=>match eN P call o e with
     | some (.val v)=>match e.put o.dst v with
       | some e'=>jK {i,o,e,v,run:=true,chg:=false} (rN P call ops rest (i+1) e')
       | none=>none
     | some (.val' v s)=>match (e.setS s).put o.dst v with
       | some e'=>jK {i,o,e,v,run:=true,chg:=true} (rN P call ops rest (i+1) e')
       | none=>none
     | some (.pan v s)=>some ([{i,o,e,v,run:=true,chg:=true}],{e with s:=s},some (v,s))
     | _=>none
def bG:List TrE->List Sto
 | []=>[]
 | x::l=>bif x.isChg then x.e.s::bG l else bG l
def cB (l:List TrE):List Nat:=(l.filter TrE.isChg).map (·.i)
def fW (l:List TrE):List (Nat × Nat):=(l.filter TrE.isNew).map fun x=>(x.i,x.e.s.n)
def dK (as:List Nat):List Nat->Bool
 | []=>true
 | [_]=>true
 | c::d::rest=>(as.getD d 0).testBit c&&dK as (d::rest)
def mE (as:List Nat) (ns:List (Nat × Nat)) (cs:List Nat):Bool:=
 cs.all fun c=>ns.all fun n=>Nat.blt c n.1||(as.getD c 0).testBit n.1
def isVal (v:AV):Option ORes->Bool
 | some (.val w)=>AV.beq 10000 v w
 | _=>false
def gS (as:List Nat) (i:Nat):List (Nat × Nat)->Sto->Sto
 | [],s=>s
 | n::ns,s=>bif (as.getD i 0).testBit n.1 then gS as i ns s else gS as i ns {s with o:=s.o.del n.2}
def eP (P:Program) (call:aY) (n:Nat) (as:List Nat) (ns:List (Nat × Nat)) (x:TrE):List Nat->List Sto->Bool
 | [],[s]=>isVal x.v (eN P call x.o {x.e with s:={gS as x.i ns s with n:=n}})
 | c::cs,s::ss=>
   (bif (as.getD x.i 0).testBit c then true else isVal x.v (eN P call x.o {x.e with s:={gS as x.i ns s with n:=n}})) &&
   (bif (as.getD c 0).testBit x.i then true else eP P call n as ns x cs ss)
 | _,_=>false
def keptY (n0:Nat) (as:List Nat) (ns:List (Nat × Nat)) (i id:Nat):Prop:=id<n0∨∃ k,(k,id)∈ns/\(as.getD i 0).testBit k=true
def DZ (P:Program) (call:aY) (Y:Nat->Prop) (x:TrE):Prop:=∀ s':Sto,(∀ id,Y id->s'.get id=x.e.s.get id)->eN P call x.o {x.e with s:=s'} = some (.val x.v)
def iX (P:Program) (call:aY) (as:List Nat) (n0:Nat) (ns:List (Nat × Nat)) (cs:List Nat) (x:TrE):Bool:=
 (cs.all fun c=>(as.getD x.i 0).testBit c||(as.getD c 0).testBit x.i) && @decide (DZ P call (keptY n0 as ns x.i) x) (Classical.propDecidable _)
def EA (Y:Nat->Prop) (s s0:Sto):Prop:=∀ id,Y id->s.get id=s0.get id
def qE (as:List Nat) (i:Nat) (m:Nat->Prop) (s0:Sto):List Nat->List Sto->Prop
 | [],ss=>∀ s∈ss,EA m s s0
 | c::cs,s::ss=>EA m s s0/\((∀ c'∈c::cs,(as.getD c' 0).testBit i=true)∨qE as i m s0 cs ss)
 | _::_,[]=>False
def kW (P:Program) (call:aY) (as:List Nat) (n0:Nat) (cs:List Nat) (ss:List Sto) (x:TrE):Bool:=
 @decide (∃ Y:Nat->Prop,(∀ id,Y id->id<n0)/\qE as x.i Y x.e.s cs ss/\DZ P call Y x) (Classical.propDecidable _)
def WL (as:List Nat) (ns:List (Nat × Nat)) (cs:List Nat) (x:TrE):Bool:=
 (cs.all fun c=>(as.getD x.i 0).testBit c||(as.getD c 0).testBit x.i)&&ns.all fun n=>(as.getD x.i 0).testBit n.1||(as.getD n.1 0).testBit x.i
def gA (P:Program) (call:aY) (n n0:Nat) (as:List Nat) (ns:List (Nat × Nat)) (cs:List Nat) (ss:List Sto):List TrE->Bool
 | []=>true
 | x::l=>(x.chg || !x.run||dJ x.o.op||WL as ns cs x||eP P call n as ns x cs ss||iX P call as n0 ns cs x||kW P call as n0 cs ss x)&&gA P call n n0 as ns cs ss l
def cZ (P:Program) (call:aY) (n n0:Nat) (as:List Nat) (l:List TrE) (last:Sto):Bool:=match cB l,fW l with
 | [],[]=>true
 | _,_=>gA P call n n0 as (fW l) (cB l) (bG l++[last]) l
def unb (n:Nat) (v:AV):Bool:=v.under n 100 || @decide (∃ d,v.under n d=true) (Classical.propDecidable _)
def eX (l:List TrE):Bool:=l.all fun x=>!x.chg||(x.o.op.operands.toList.all fun y=>unb x.e.s.n (x.e.eval y))
def eI:List TrE->Nat->Bool
 | [],_=>true
 | [x],n=>Nat.ble x.e.s.n n
 | x::y::l,n=>Nat.ble x.e.s.n y.e.s.n&&eI (y::l) n
def dL (e:Env):List Oper->Env
 | []=>e
 | o::rest=>match o.dst with
   | some d=>dL {e with t:=e.t.del d} rest
   | none=>dL e rest
def fL (as:List Nat) (c:Nat):List Oper->Nat->Bool
 | [],_=>true
 | _::rest,i=>(!Nat.blt c i||(as.getD i 0).testBit c)&&fL as c rest (i+1)
def pH (P:Program) (call:aY) (ops:List Oper) (e:Env):Option (Ex × Env):=
 match rN P call ops ops 0 e with
 | none=>none
 | some (l,f,p)=>
   let as:=bH ops
   let cs:=cB l
   let ns:=fW l
   bif P.follows .mixedOrders&&iJ ops&&dK as cs&&mE as ns cs&&eI l f.s.n&&eX l&&cZ P call f.s.n e.s.n as l f.s then
    match p with
    | none=>some (.normal,f)
    | some (v,s)=>bif fL as (l.length-1) ops 0 then some (.panic v,dL {e with s:=s} ops) else none
   else none
def iY (P:Program) (call:aY) (ops:List Oper) (draw:Bool) (e:Env):Option (Ex × Env):=
 bif draw then pH P call ops e else eH P call ops ops e
def loopGo (f:Env->Option (Ex × Env)):Nat->Env->Option (Ex × Env)
 | 0,_=>none
 | n+1,e=>match f e with
   | some (.normal,e')=>loopGo f n e'
   | r=>r
def jY (e:Env) (ds:List ADef) (lid:Nat) (s:Sto):Option (Ex × Env):=
 match s.get lid with
 | some (.loop st pend fn nt t ps a b d)=>match st with
   | .busy=>none
   | _=>
     let e':Env:={e with s:=s.put lid (.loop .exhausted pend fn nt t ps a b d),ds:=ds}
     match pend with
     | none=>some (.normal,e')
     | some .ret=>some (.ret,e')
     | some (.exit id)=>some (.exit id,e')
     | some _=>none
 | _=>none
def nR (call:aY) (f:Operand) (params:Array Tmp) (assign body:Code) (e:Env):Option (Ex × Env):=
 match (match e.ro with
  | none=>some (e.s.push (.defs (some [])),e.s.n,ADef.collected e.s.n::e.ds)
  | some l=>match e.s.get l with
    | some (.loop _ _ _ _ _ _ _ _ d)=>some (e.s,d,e.ds)
    | _=>none) with
 | none=>none
 | some (s1,d,ds)=>
   let s2:=s1.push (.loop .ready none e.fn e.nt e.t params.toList assign body d)
   match call (e.eval f) [.func (.yield s1.n) [] []] s2 .no with
   | some (.ret _ so,_)=>jY e ds s1.n (match so with | some s=>s | none=>s2)
   | some (.pan v so,_)=>some (.panic v,{e with s:=(match so with | some s=>s | none=>s2),ds:=ds})
   | none=>none
def aR (P:Program) (call:aY) (n:Nat):Code->Env->Option (Ex × Env)
 | .skip,e=>some (.normal,e)
 | .label _,e=>some (.normal,e)
 | .region _ ops draw,e=>iY P call ops.toList draw e
 | .seq a b,e=>match aR P call n a e with
   | some (.normal,e')=>aR P call n b e'
   | r=>r
 | .cond c x y,e=>match e.eval c with
   | .bool true=>aR P call n x e
   | .bool false=>aR P call n y e
   | _=>none
 | .block id c,e=>match aR P call n c e with
   | some (.exit i,e')=>bif Nat.beq i id then some (.normal,e') else some (.exit i,e')
   | r=>r
 | .loop c,e=>loopGo (aR P call n c) n e
 | .scope c,e=>match aR P call n c e with
   | some (.goto _,_)=>none
   | r=>r
 | .exit id,e=>some (.exit id,e)
 | .ret,e=>some (.ret,e)
 | .rangeFunc f ps a b,e=>nR call f ps a b e
 | .goto _,_=>none
 | .refuse _,_=>none
def aM (P:Program) (e:Env):List ResultVar->Option (List AV)
 | []=>some []
 | .tmp t::l=>match aM P e l with
   | some r=>some ((match e.t.get t with | some v=>v | none=>.top)::r)
   | none=>none
 | .cell a t::l=>match cN P e.s t (match e.t.get a with | some v=>v | none=>.top) with
   | some v=>match aM P e l with
     | some r=>some (v::r)
     | none=>none
   | none=>none
def EB (n:Nat):ARec->Bool
 | .no=>true
 | .pan v | .recd v=>v.under n 100
def fM (s:Sto) (v:AV) (e:Env):Option Sto:=
 bif Nat.ble s.n e.s.low&&(v.under s.n 100&&EB s.n e.r) then none else some {e.s with low:=Nat.min s.low e.s.low}
def pI:AV->Bool
 | .func (.yield _) _ _=>true
 | _=>false
inductive LRes where
 | ret (v:AV)
 | pan (v:AV)
def dleave (P:Program) (call:aY) (fn:Func):Nat->Option AV->Env->Option (LRes × Env)
 | 0,_,_=>none
 | m+1,mode,e=>match e.ds with
   | []=>match mode with
     | none=>match aM P e fn.results.toList with
       | some [v]=>some (.ret v,e)
       | some l=>some (.ret (.tuple l),e)
       | none=>none
     | some v=>some (.pan v,e)
   | .collected id::ds=>match e.s.get id with
     | some (.defs (some l))=>dleave P call fn m mode {e with ds:=l++ds,s:=e.s.put id (.defs none)}
     | _=>none
   | .call fv args::ds=>bif pI fv then none else match mode with
     | none=>match call fv args e.s .no with
       | some (.ret _ so,.no)=>dleave P call fn m none {e with ds:=ds,s:=(match so with | some s=>s | none=>e.s)}
       | some (.pan v so,.no)=>dleave P call fn m (some v) {e with ds:=ds,s:=(match so with | some s=>s | none=>e.s)}
       | _=>none
     | some p=>match call fv args e.s (.pan p) with
       | some (.ret _ so,.recd _)=>dleave P call fn m none {e with ds:=ds,s:=(match so with | some s=>s | none=>e.s)}
       | some (.ret _ so,.pan p')=>dleave P call fn m (some p') {e with ds:=ds,s:=(match so with | some s=>s | none=>e.s)}
       | _=>none
def qF (s:Sto):Option (LRes × Env)->Option (CRes × ARec)
 | some (.ret v,e)=>some (.ret v (fM s v e),e.r)
 | some (.pan v,e)=>some (.pan v (fM s v e),e.r)
 | none=>none
def okFn (P:Program) (f:FuncId):Bool:=match P.funcs[f]? with
 | some fn=>fn.name != "runtime.NumGoroutine" && fn.body.isSome
 | none=>false
def jZ (P:Program) (call:aY) (n:Nat) (f:FuncId) (args:List AV) (s:Sto) (r:ARec):Option (CRes × ARec):=
 bif okFn P f then match P.funcs[f]? with
  | some fn=>match fn.body with
    | some c=>
      match aR P call n c {nt:=Nat.max args.length fn.ntmps,ro:=none,fn:=f,t:=Tr.leaf.lay 0 args,ds:=[],s:={s with low:=s.n},r:=r} with
      | some (.normal,e)=>qF s (dleave P call fn n none e)
      | some (.ret,e)=>qF s (dleave P call fn n none e)
      | some (.panic v,e)=>qF s (dleave P call fn n (some v) e)
      | _=>none
    | none=>none
  | none=>none
 else none
def tL (nt:Nat):Tr AV->List Nat->List AV->Option (Tr AV)
 | t,p::ps,a::as=>bif Nat.blt p nt then tL nt (t.set p a) ps as else none
 | t,[],[]=>some t
 | _,_,_=>none
def fX (s:Sto) (l:Nat) (jump:Option Code) (e:Env):Option (CRes × ARec):=
 match e.s.get l,e.ds with
 | some (.loop _ _ fn nt t ps a b d),[]=>
   some (.ret (.bool jump.isNone) (some {e.s.put l (.loop (bif jump.isNone then .ready else .done) jump fn nt t ps a b d) with low:=Nat.min s.low (e.s.put l (.loop .ready none fn nt t ps a b d)).low}),.no)
 | _,_=>none
def kX (P:Program) (call:aY) (n:Nat) (l:Nat) (args:List AV) (s:Sto):Option (CRes × ARec):=
 match s.get l with
 | some (.loop st pend fn nt t ps a b d)=>match tL nt t ps args with
   | some t'=>match aR P call n a {nt:=nt,ro:=some l,fn:=fn,t:=t',ds:=[],s:={s with low:=s.n},r:=.no} with
     | some (.normal,e)=>match e.s.get l with
       | some (.loop .ready pend' fn' nt' t'' ps' a' b' d')=>
         match aR P call n b {e with s:=e.s.put l (.loop .busy pend' fn' nt' t'' ps' a' b' d')} with
         | some (.normal,e)=>fX s l none e
         | some (.ret,e)=>fX s l (some .ret) e
         | some (.exit id,e)=>fX s l (some (.exit id)) e
         | some (.panic v,e)=>match e.ds with
           | []=>bif okFn P e.fn then some (.pan v (some {e.s with low:=Nat.min s.low e.s.low}),.no) else none
           | _=>none
         | _=>none
       | _=>none
     | _=>none
   | none=>none
 | _=>none
abbrev Orc:=FuncId->List AV->Sto->Option CRes
def xK (O:Orc) (fv:AV) (args:List AV) (s:Sto) (r:ARec):Option CRes:=match r with
 | .no=>(match fv with
   | .func (.func g) first cap=>O g (first++args++cap) s
   | _=>none)
 | _=>none
def aH (P:Program) (O:Orc):Nat->aY
 | 0=>fun _ _ _ _=>none
 | n+1=>fun fv args s r=>match xK O fv args s r with
   | some res=>some (res,.no)
   | none=>match fZ P s fv args with
     | some (.fn f args)=>jZ P (aH P O n) n f args s r
     | some (.round l args)=>(match r with | .no=>kX P (aH P O n) n l args s | _=>none)
     | none=>none
abbrev bU:=List (FuncId × List AV × AV)
def ZN:bU->Orc
 | [],_,_,_=>none
 | x::T,f,args,s=>bif Nat.beq x.1 f&&cM (AV.beq 1000) x.2.1 args then some (.ret x.2.2 none) else ZN T f args s
def Sto.empty:Sto:={n:=0,low:=0,o:=.leaf}
def ZA (P:Program) (O:Orc) (n:Nat) (f:FuncId) (args:List AV):Option (CRes × ARec):=jZ P (aH P O n) n f args .empty .no
def ZB (P:Program) (O:Orc) (n:Nat) (f:FuncId) (args:List AV) (v:AV):Bool:=args.all (AV.under 0 100)&&match ZA P O n f args with
 | some (.ret w none,.no)=>AV.beq 1000 v w
 | _=>false
end
end Go.Abs
