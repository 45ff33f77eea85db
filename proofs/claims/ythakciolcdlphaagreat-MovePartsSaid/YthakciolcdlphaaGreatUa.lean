/-
  A deterministic abstract machine over the model's own code: definitions.
-/
import Derived.AtR
import Derived.Orders
set_option linter.unusedVariables false
set_option linter.unusedSimpArgs false
namespace Go.Abs
noncomputable section
inductive Tr (α:Type) where
 | leaf
 | node (v:Option α) (l r:Tr α)
def Tr.get {α:Type} (t:Tr α):Nat->Option α:=
 @Tr.rec α (fun _=>Nat->Option α) (fun _=>none) (fun v _ _ gl gr i=>@Bool.rec (fun _=>Option α) (@Bool.rec (fun _=>Option α) (gr (Nat.sub (Nat.div i 2) 1)) (gl (Nat.div i 2)) (Nat.beq (Nat.mod i 2) 1)) v (Nat.beq i 0)) t
def Tr.setF {α:Type} (f:Nat):Tr α->Nat->Option α->Tr α:=
 @Nat.rec (fun _=>Tr α->Nat->Option α->Tr α) (fun t _ _=>t)
  (fun _ ih t i a=>@Tr.rec α (fun _=>Tr α)
    (@Bool.rec (fun _=>Tr α) (@Bool.rec (fun _=>Tr α) (.node none .leaf (ih .leaf (Nat.sub (Nat.div i 2) 1) a)) (.node none (ih .leaf (Nat.div i 2) a) .leaf) (Nat.beq (Nat.mod i 2) 1)) (.node a .leaf .leaf) (Nat.beq i 0))
    (fun v l r _ _=>@Bool.rec (fun _=>Tr α) (@Bool.rec (fun _=>Tr α) (.node v l (ih r (Nat.sub (Nat.div i 2) 1) a)) (.node v (ih l (Nat.div i 2) a) r) (Nat.beq (Nat.mod i 2) 1)) (.node a l r) (Nat.beq i 0)) t) f
def Tr.set {α:Type} (t:Tr α) (i:Nat) (a:α):Tr α:=Tr.setF (i+1) t i (some a)
def Tr.del {α:Type} (t:Tr α) (i:Nat):Tr α:=Tr.setF (i+1) t i none
def Tr.lay {α:Type}:Tr α->Nat->List α->Tr α
 | t,_,[]=>t
 | t,i,a::l=>Tr.lay (t.set i a) (i+1) l
def Tr.row {α:Type} (t:Tr α):(i n:Nat)->Option (List α)
 | _,0=>some []
 | i,n+1=>match t.get i with
   | none=>none
   | some a=>match t.row (i+1) n with
     | none=>none
     | some l=>some (a::l)
inductive ACap where
 | is (c:Nat)
 | room (k:Nat)
 | least (k c:Nat)
inductive AV where
 | top
 | bool (b:Bool)
 | int (k:IntKind) (n:Int)
 | str (s:List Nat)
 | nilp
 | ptr (id gen off:Nat)
 | pf (v:AV)
 | nils
 | sl (id gen off len:Nat) (cap:ACap)
 | fz (l:List AV) (clip:Bool)
 | nilm
 | map (id:Nat)
 | func (fn:Fn) (first captured:List AV)
 | nilf
 | iface (t:TypeId) (v:AV)
 | nili
 | agg (cs:List AV)
 | tuple (vs:List AV)
def AV.undef:AV:=.tuple []
def AV.cells:AV->List AV
 | .agg cs=>cs
 | v=>[v]
def AV.isCell:AV->Bool
 | .top | .agg _ | .tuple _=>false
 | _=>true
inductive ADef where
 | call (fv:AV) (args:List AV)
 | collected (id:Nat)
inductive AObj where
 | cells (gen n:Nat) (c:Tr AV)
 | map (es:List (AV × AV × Nat)) (clock:Nat)
 | siter (s:List Nat) (pos:Nat)
 | loop (state:LoopState) (pending:Option Code) (fn:FuncId) (nt:Nat) (t:Tr AV) (params:List Nat) (assign body:Code) (defers:Nat)
 | defs (ds:Option (List ADef))
structure Sto where
 n:Nat
 low:Nat
 o:Tr AObj
def Sto.get (s:Sto) (i:Nat):Option AObj:=bif Nat.blt i s.n then s.o.get i else none
def Sto.push (s:Sto) (x:AObj):Sto:={n:=s.n+1,low:=s.low,o:=s.o.set s.n x}
def Sto.put (s:Sto) (i:Nat) (x:AObj):Sto:={n:=s.n,low:=bif Nat.blt i s.low then i else s.low,o:=s.o.set i x}
inductive ARec where
 | no
 | pan (v:AV)
 | recd (v:AV)
structure Env where
 nt:Nat
 ro:Option Nat
 fn:FuncId
 t:Tr AV
 ds:List ADef
 s:Sto
 r:ARec
inductive Ex where
 | normal
 | exit (id:Nat)
 | goto (l:Nat)
 | ret
 | panic (v:AV)
inductive CRes where
 | ret (v:AV) (s:Option Sto)
 | pan (v:AV) (s:Option Sto)
abbrev bL:=AV->List AV->Sto->ARec->Option (CRes × ARec)
inductive ORes where
 | val (v:AV)
 | val' (v:AV) (s:Sto)
 | pan (v:AV) (s:Sto)
 | defer (d:ADef)
 | recov
def WW:List Value->Option (List AV)
 | []=>some []
 | v::l=>match (match v with
    | .bool b=>some (AV.bool b)
    | .int k n=>some (AV.int k n)
    | .string s=>some (AV.str (s.data.toList.map (·.toNat)))
    | .pointer none=>some AV.nilp
    | .slice none 0 0=>some AV.nils
    | .map none=>some AV.nilm
    | .nilFunc=>some AV.nilf
    | .nilIface=>some AV.nili
    | _=>none) with
   | none=>none
   | some a=>match WW l with
     | none=>none
     | some r=>some (a::r)
def HZ:Value->AV
 | .agg cs=>match WW cs.toList with
   | some l=>.agg l
   | none=>.top
 | v=>match WW [v] with
   | some [a]=>a
   | _=>.top
def Env.eval (e:Env):Operand->AV
 | .tmp t=>match e.t.get t with
   | some v=>v
   | none=>.top
 | .const v=>HZ v
 | .global _=>.top
 | .func f=>.func (.func f) [] []
def Env.put (e:Env) (dst:Option Tmp) (v:AV):Option Env:=
 match dst with
 | none=>some e
 | some d=>match e with
   | ⟨nt,ro,fn,t,ds,s,r⟩=>bif Nat.blt d nt then some ⟨nt,ro,fn,t.set d v,ds,s,r⟩ else none
def Env.setS (e:Env) (s':Sto):Env:=match e with
 | ⟨nt,ro,fn,t,ds,_,r⟩=>⟨nt,ro,fn,t,ds,s',r⟩
def Env.setDs (e:Env) (ds':List ADef):Env:=match e with
 | ⟨nt,ro,fn,t,_,s,r⟩=>⟨nt,ro,fn,t,ds',s,r⟩
def Env.setR (e:Env) (r':ARec):Env:=match e with
 | ⟨nt,ro,fn,t,ds,s,_⟩=>⟨nt,ro,fn,t,ds,s,r'⟩
section types
variable (P:Program)
def qE (t:TypeId):Option Nat:=(P.info? t).map (·.size)
def mA (t:TypeId):Option Nat:=(P.info? t).map (·.bytes)
def CK:TypeDesc->Bool
 | .struct _ | .array _ _=>true
 | _=>false
def yW (t:TypeId):Option Bool:=(P.underlying t).map CK
def aX (t:TypeId):Option AV:=
 match (P.info? t).bind (·.zero) with
 | some v=>match HZ v with
   | .top=>none
   | a=>some a
 | none=>none
end types
def eO {α:Type} (f:α->α->Bool):List α->List α->Bool
 | [],[]=>true
 | a::l,b::m=>f a b&&eO f l m
 | _,_=>false
def pO:Int->Int->Bool
 | .ofNat a,.ofNat b=>Nat.beq a b
 | .negSucc a,.negSucc b=>Nat.beq a b
 | _,_=>false
def PT:ACap->ACap->Bool
 | .is a,.is b=>Nat.beq a b
 | .room a,.room b=>Nat.beq a b
 | .least a c,.least b d=>Nat.beq a b&&Nat.beq c d
 | _,_=>false
def aIk (a b:Fn):Bool:=decide (a=b)
def AV.beq:Nat->AV->AV->Bool
 | 0,_,_=>false
 | d+1,a,b=>match a,b with
   | .bool a,.bool b=>a==b
   | .int j a,.int k b=>decide (j=k)&&pO a b
   | .str a,.str b=>eO Nat.beq a b
   | .nilp,.nilp | .nils,.nils | .nilm,.nilm | .nilf,.nilf | .nili,.nili=>true
   | .ptr i g o,.ptr i' g' o'=>Nat.beq i i'&&Nat.beq g g'&&Nat.beq o o'
   | .pf v,.pf w=>AV.beq d v w
   | .sl i g o n c,.sl i' g' o' n' c'=>Nat.beq i i'&&Nat.beq g g'&&Nat.beq o o'&&Nat.beq n n'&&PT c c'
   | .fz l c,.fz m c'=>eO (AV.beq d) l m&&(c==c')
   | .map i,.map j=>Nat.beq i j
   | .func f a c,.func g b e=>aIk f g&&eO (AV.beq d) a b&&eO (AV.beq d) c e
   | .iface t v,.iface u w=>Nat.beq t u&&AV.beq d v w
   | .agg a,.agg b=>eO (AV.beq d) a b
   | .tuple a,.tuple b=>eO (AV.beq d) a b
   | _,_=>false
section ops
variable (P:Program)
def aZ {α:Type} (l:List α) (i n:Nat):List α:=(l.drop i).take n
def mU (t:TypeId) (cs:List AV) (off:Nat):Option AV:=
 match yW P t,qE P t with
 | some true,some n=>bif Nat.ble (off+n) cs.length then some (.agg (aZ cs off n)) else none
 | some false,_=>cs[off]?
 | _,_=>none
def eB (s:Sto) (t:TypeId):AV->Option AV
 | .ptr id g off=>match s.get id with
   | some (.cells g' n c)=>bif Nat.beq g g' then
    match yW P t,qE P t with
    | some true,some k=>bif Nat.ble (off+k) n then (match c.row off k with | some l=>some (.agg l) | none=>none) else none
    | some false,_=>bif Nat.blt off n then c.get off else none
    | _,_=>none
     else none
   | _=>none
 | .pf v=>match yW P t,qE P t,v with
   | some true,some k,.agg cs=>bif Nat.beq cs.length k then some v else none
   | some false,_,v=>bif v.isCell then some v else none
   | _,_,_=>none
 | _=>none
def kM (s:Sto) (t:TypeId) (a v:AV):Option Sto:=
 match a with
 | .ptr id g off=>match s.get id,qE P t with
   | some (.cells g' n c),some k=>bif Nat.beq g g'&&Nat.ble (off+k) n&&Nat.beq v.cells.length k&&v.cells.all AV.isCell then
    some (s.put id (.cells g' n (c.lay off v.cells)))
     else none
   | _,_=>none
 | _=>none
def mG (s:Sto) (cs:List AV):Option (Nat × Sto):=
 bif cs.all AV.isCell then some (s.n,s.push (.cells 0 cs.length (Tr.leaf.lay 0 cs))) else none
def eC (place:Nat->Option (Nat × Nat)) (cells:List AV):List (Nat × AV)->Option (List AV)
 | []=>some cells
 | (i,v)::rest=>match place i with
   | none=>none
   | some (off,size)=>
     bif Nat.beq v.cells.length size&&Nat.ble (off+size) cells.length&&v.cells.all AV.isCell then eC place (cells.take off++v.cells++cells.drop (off+size)) rest
     else none
def cQ (cs:List AV):Nat->List AV
 | 0=>[]
 | n+1=>cs++cQ cs n
def pP:List Field->Option (List (Nat × Nat))
 | []=>some []
 | f::l=>match qE P f.type with
   | none=>none
   | some n=>match pP l with
     | none=>none
     | some r=>some ((f.offset,n)::r)
def nK (t:TypeId) (parts:List (Nat × AV)):Option AV:=
 match aX P t,P.underlying t with
 | some z,some (.struct fields)=>match pP P fields.toList with
   | some ps=>match eC (fun i=>ps[i]?) z.cells parts with
     | some cs=>some (.agg cs)
     | none=>none
   | none=>none
 | some z,some (.array _ elem)=>match qE P elem with
   | some k=>match eC (fun i=>some (i*k,k)) z.cells parts with
     | some cs=>some (.agg cs)
     | none=>none
   | none=>none
 | _,_=>none
def pQ (v:AV) (len:Nat):Option Nat:=
 match v with
 | .int _ (.ofNat i)=>bif Nat.blt i len then some i else none
 | _=>none
def dS (v:Option AV) (dflt most:Nat):Option Nat:=
 match v with
 | none=>some dflt
 | some (.int _ (.ofNat i))=>bif Nat.ble i most then some i else none
 | _=>none
def zJ (len:Nat):ACap->Nat
 | .is c=>c
 | .room _=>len
 | .least _ c=>c
def eP (k len c:Nat):ACap:=bif Nat.beq len c then .room k else .least k c
def pR (k:Nat) (x:AV) (lo hi mx:Option AV):Option AV:=
 match x,mx with
 | .nils,none=>match dS hi 0 0 with
   | some h=>match dS lo 0 h with
     | some _=>some .nils
     | none=>none
   | none=>none
 | .nils,some m=>match dS (some m) 0 0,hi with
   | some c,some h=>match dS (some h) 0 c with
     | some h=>match dS lo 0 h with
       | some _=>some .nils
       | none=>none
     | none=>none
   | _,_=>none
 | .fz xs c,none=>match dS hi xs.length xs.length with
   | some h=>match dS lo 0 h with
     | some l=>bif xs.all (fun v=>Nat.beq v.cells.length k) then some (.fz (aZ xs l (h-l)) (c&&Nat.beq h xs.length)) else none
     | none=>none
   | none=>none
 | .fz xs _,some m=>match dS (some m) 0 xs.length,hi with
   | some c',some h=>match dS (some h) 0 c' with
     | some h=>match dS lo 0 h with
       | some l=>bif xs.all (fun v=>Nat.beq v.cells.length k) then some (.fz (aZ xs l (h-l)) (Nat.beq h c')) else none
       | none=>none
     | none=>none
   | _,_=>none
 | .sl id g off len (.is c),none=>match dS hi len c with
   | some h=>match dS lo 0 h with
     | some l=>some (bif Nat.beq c l then .sl id g off (h-l) (.is (c-l)) else .sl id g (off+l*k) (h-l) (.is (c-l)))
     | none=>none
   | none=>none
 | .sl id g off len (.room r),none=>match dS hi len len with
   | some h=>match dS lo 0 h with
     | some l=>bif Nat.beq k r then (bif Nat.blt l len then some (.sl id g (off+l*k) (h-l) (eP r (h-l) (len-l))) else some (.fz [] false)) else none
     | none=>none
   | none=>none
 | .sl id g off len (.least r c),none=>match dS hi len c with
   | some h=>match dS lo 0 h with
     | some l=>bif Nat.beq k r then (bif Nat.blt l c then some (.sl id g (off+l*k) (h-l) (eP r (h-l) (c-l))) else none) else none
     | none=>none
   | none=>none
 | .sl id g off len c,some m=>match dS (some m) 0 (zJ len c),hi with
   | some c',some h=>match dS (some h) 0 c' with
     | some h=>match dS lo 0 h with
       | some l=>some (bif Nat.beq c' l then .sl id g off (h-l) (.is (c'-l)) else .sl id g (off+l*k) (h-l) (.is (c'-l)))
       | none=>none
     | none=>none
   | _,_=>none
 | _,_=>none
def eQ (t:TypeId) (x:AV) (lo hi mx:Option AV):Option AV:=
 match P.underlying t with
 | some .string=>match x,mx with
   | .str s,none=>match dS hi s.length s.length with
     | some h=>match dS lo 0 h with
       | some l=>some (.str (aZ s l (h-l)))
       | none=>none
     | none=>none
   | _,_=>none
 | some (.slice e)=>match qE P e with
   | some k=>pR k x lo hi mx
   | none=>none
 | some (.array n e)=>match x,mx,qE P e with
   | .ptr id g off,none,some k=>match dS hi n n with
     | some h=>match dS lo 0 h with
       | some l=>some (bif Nat.beq n l then .sl id g off (h-l) (.is (n-l)) else .sl id g (off+l*k) (h-l) (.is (n-l)))
       | none=>none
     | none=>none
   | _,_,_=>none
 | _=>none
def sS (t:TypeId) (cs:List AV) (off:Nat):Option AV:=
 match mU P t cs off with
 | some v=>(match yW P t with
   | some true=>some (.pf v)
   | _=>bif v.isCell then some (.pf v) else none)
 | none=>none
def bO (t:TypeId) (a:AV) (f:Nat):Option AV:=
 match P.underlying t with
 | some (.struct fields)=>match fields[f]? with
   | some fd=>match qE P fd.type,a with
     | some (_+1),.ptr id g off=>some (.ptr id g (off+fd.offset))
     | some (_+1),.pf (.agg cs)=>sS P fd.type cs fd.offset
     | _,_=>none
   | none=>none
 | _=>none
def nL (t:TypeId) (x:AV) (f:Nat):Option AV:=
 match P.underlying t,x with
 | some (.struct fields),.agg cs=>match fields[f]? with
   | some fd=>mU P fd.type cs fd.offset
   | none=>none
 | _,_=>none
def bP (t:TypeId) (x i:AV):Option AV:=
 match P.underlying t,x with
 | some (.array len e),.ptr id g off=>match pQ i len,qE P e with
   | some i,some k=>some (.ptr id g (off+i*k))
   | _,_=>none
 | some (.array len e),.pf (.agg cs)=>match pQ i len,qE P e with
   | some i,some k=>sS P e cs (i*k)
   | _,_=>none
 | some (.slice e),.sl id g off len _=>match pQ i len,qE P e with
   | some i,some k=>some (.ptr id g (off+i*k))
   | _,_=>none
 | some (.slice e),.fz xs _=>match pQ i xs.length,qE P e with
   | some i,some k=>match xs[i]? with
     | some v=>bif Nat.beq v.cells.length k then some (.pf v) else none
     | none=>none
   | _,_=>none
 | _,_=>none
def pS (t:TypeId) (x i:AV):Option AV:=
 match P.underlying t,x with
 | some (.array len e),.agg cs=>match pQ i len,qE P e with
   | some i,some k=>mU P e cs (i*k)
   | _,_=>none
 | some .string,.str s=>match pQ i s.length with
   | some i=>match s[i]? with
     | some b=>some (.int .u8 (.ofNat b))
     | none=>none
   | none=>none
 | _,_=>none
def aeqs (f:TypeId->AV->AV->Option Bool) (xs ys:List AV):List (TypeId × Nat)->Option Bool
 | []=>some true
 | (t,off)::rest=>match mU P t xs off,mU P t ys off with
   | some x,some y=>match f t x y with
     | some true=>aeqs f xs ys rest
     | some false=>some false
     | none=>none
   | _,_=>none
def PU (fields:Array Field):List (TypeId × Nat):=
 (fields.toList.filter fun f=>f.name != "_").map fun f=>(f.type,f.offset)
def oL (e k:Nat):(n i:Nat)->List (TypeId × Nat)
 | 0,_=>[]
 | n+1,i=>(e,i*k)::oL e k n (i+1)
def aCq:Option TypeDesc->AV->AV->Option Bool
 | some (.slice _),.nils,.fz _ _ | some (.slice _),.fz _ _,.nils=>some false
 | _,_,_=>none
def aeq:Nat->TypeId->AV->AV->Option Bool
 | 0,_,_,_=>none
 | d+1,t,x,y=>match P.underlying t,x,y with
   | some .bool,.bool a,.bool b=>some (a==b)
   | some (.int _),.int k a,.int k' b=>bif decide (k=k') then some (pO a b) else none
   | some .string,.str a,.str b=>some (eO Nat.beq a b)
   | some (.pointer _),.nilp,.nilp=>some true
   | some (.pointer _),.nilp,.ptr _ _ _ | some (.pointer _),.ptr _ _ _,.nilp=>some false
   | some (.pointer _),.nilp,.pf _ | some (.pointer _),.pf _,.nilp=>some false
   | some (.slice _),.nils,.nils=>some true
   | some (.slice _),.nils,.sl _ _ _ _ _ | some (.slice _),.sl _ _ _ _ _,.nils=>some false
   | some (.map _ _),.nilm,.nilm=>some true
   | some (.map _ _),.nilm,.map _ | some (.map _ _),.map _,.nilm=>some false
   | some (.func _ _ _),.nilf,.nilf=>some true
   | some (.func _ _ _),.nilf,.func _ _ _ | some (.func _ _ _),.func _ _ _,.nilf=>some false
   | some (.interface _),.nili,.nili=>some true
   | some (.interface _),.nili,.iface _ _ | some (.interface _),.iface _ _,.nili=>some false
   | some (.struct fields),.agg xs,.agg ys=>
     bif P.stoodInHeld t then none else aeqs P (aeq d) xs ys (PU fields)
   | some (.array n e),.agg xs,.agg ys=>match qE P e with
     | some k=>aeqs P (aeq d) xs ys (oL e k n 0)
     | none=>none
   | u,x,y=>aCq u x y
def pT (op:BinOp) (t:TypeId) (x y:Operand) (a b:AV):Bool:=
 match op,a,b with
 | .eql,.nili,.nili | .neq,.nili,.nili=>(match x with | .const _=>true | _=>false)||(match y with | .const _=>true | _=>false)
 | .eql,.agg _,.agg _ | .neq,.agg _,.agg _=>!P.eqGuardType P.depth t
 | _,_,_=>true
def lA:List Nat->List Nat->Bool
 | _,[]=>false
 | [],_::_=>true
 | a::x,b::y=>Nat.blt a b||(Nat.beq a b&&lA x y)
def CL (op:BinOp) (x y:List Nat):Option AV:=
 match op with
 | .add=>bif Nat.blt (x.length+y.length) 9223372036854775808 then some (.str (x++y)) else none
 | .eql=>some (.bool (eO Nat.beq x y))
 | .neq=>some (.bool (!eO Nat.beq x y))
 | .lss=>some (.bool (lA x y))
 | .leq=>some (.bool (lA x y||eO Nat.beq x y))
 | .gtr=>some (.bool (!(lA x y||eO Nat.beq x y)))
 | .geq=>some (.bool (!lA x y))
 | _=>none
def HS {α:Type} (n:Int) (k:Int->α):α:=
 match n with
 | .ofNat m=>(match m with | 0=>k (.ofNat 0) | j+1=>k (.ofNat (j+1)))
 | .negSucc m=>(match m with | 0=>k (.negSucc 0) | j+1=>k (.negSucc (j+1)))
def kQ (k:IntKind) (n:Int):Option AV:=HS n fun m=>some (.int k m)
def aKs {α:Type} (b:Bool) (k:Bool->α):α:=match b with | true=>k true | false=>k false
def tY (b:Bool):Option AV:=aKs b fun b=>some (.bool b)
def iR (op:BinOp) (k:IntKind) (a b:Int):Option AV:=
 match op with
 | .add=>kQ k (k.wrap (a+b))
 | .sub=>kQ k (k.wrap (a-b))
 | .mul=>kQ k (k.wrap (a*b))
 | .quo=>bif decide (b=0) then none else kQ k (k.wrap (a.tdiv b))
 | .rem=>bif decide (b=0) then none else kQ k (a.tmod b)
 | .and=>kQ k (k.wrap (BitVec.ofInt k.bits a &&& BitVec.ofInt k.bits b).toNat)
 | .or=>kQ k (k.wrap (BitVec.ofInt k.bits a ||| BitVec.ofInt k.bits b).toNat)
 | .xor=>kQ k (k.wrap (BitVec.ofInt k.bits a ^^^ BitVec.ofInt k.bits b).toNat)
 | .andNot=>kQ k (k.wrap (BitVec.ofInt k.bits a &&& ~~~BitVec.ofInt k.bits b).toNat)
 | .eql=>tY (pO a b)
 | .neq=>tY (!pO a b)
 | .lss=>tY (decide (a<b))
 | .leq=>tY (decide (a<=b))
 | .gtr=>tY (decide (b<a))
 | .geq=>tY (decide (b<=a))
 | _=>none
def cX (op:BinOp) (t:TypeId) (x y:Operand) (a b:AV):Option AV:=
 match op,a,b with
 | .shl,.int k a,.int _ b=>bif decide (b<0) then none else kQ k (k.wrap (a*2 ^ (min b.toNat k.bits)))
 | .shr,.int k a,.int _ b=>bif decide (b<0) then none else kQ k (a.fdiv (2 ^ (min b.toNat k.bits)))
 | op,.int k a,.int k' b=>bif decide (k=k') then iR op k a b else none
 | op,.str a,.str b=>CL op a b
 | .eql,a,b=>bif pT P .eql t x y a b then (match aeq P 10000 t a b with | some r=>some (.bool r) | none=>none) else none
 | .neq,a,b=>bif pT P .neq t x y a b then (match aeq P 10000 t a b with | some r=>some (.bool (!r)) | none=>none) else none
 | _,_,_=>none
def aun (op:UnOp) (a:AV):Option AV:=
 match op,a with
 | .neg,.int k n=>kQ k (k.wrap (0-n))
 | .xor,.int k n=>kQ k (k.wrap (BitVec.ofInt k.bits (if k.signed then -1 else k.max) ^^^ BitVec.ofInt k.bits n).toNat)
 | .not,.bool b=>some (.bool (!b))
 | _,_=>none
def ofBytes:List AV->Option (List Nat)
 | []=>some []
 | .int .u8 n::l=>match ofBytes l with
   | some r=>some ((n.toNat%256)::r)
   | none=>none
 | _::_=>none
def eR (s:List Nat):List AV:=s.map fun b=>AV.int .u8 (.ofNat b)
def dI (s:Sto) (k n:Nat):AV->Option (List AV)
 | .sl id g off len _=>bif Nat.ble n len then match s.get id with
  | some (.cells g' m c)=>bif Nat.beq g g'&&Nat.ble (off+n*k) m then c.row off (n*k) else none
  | _=>none
   else none
 | .nils=>bif Nat.beq n 0 then some [] else none
 | .fz xs _=>bif Nat.ble n xs.length then
  (let l:=(xs.take n).flatMap AV.cells
   bif (xs.take n).all (fun x=>Nat.beq x.cells.length k)&&l.all AV.isCell then some l else none)
   else none
 | .str b=>bif Nat.ble n b.length&&Nat.beq k 1 then some (eR (b.take n)) else none
 | _=>none
def oM:AV->Option Nat
 | .sl _ _ _ len _=>some len
 | .nils=>some 0
 | .fz xs _=>some xs.length
 | .str s=>some s.length
 | _=>none
def iB (s:Sto) (src dst:TypeId) (x:AV):Option ORes:=
 match P.underlying src,P.underlying dst,x with
 | some _,some (.int k),.int _ n=>match kQ k (k.wrap n) with | some v=>some (.val v) | none=>none
 | some _,some .string,.str b=>some (.val (.str b))
 | some _,some (.slice e),.str b=>match P.underlying e with
   | some (.int .u8)=>match mG s (eR b) with
     | some (id,s')=>some (.val' (.sl id 0 0 b.length (.room 1)) s')
     | none=>none
   | _=>none
 | some (.slice e),some .string,x=>match P.underlying e,oM x with
   | some (.int .u8),some n=>match dI s 1 n x with
     | some l=>match ofBytes l with
       | some b=>some (.val (.str b))
       | none=>none
     | none=>none
   | _,_=>none
 | _,_,_=>none
def eD (n by_:Nat):Bool:=Nat.ble ((2*n+1024)*by_) (2 ^ 48)&&Nat.blt n (2 ^ 62)
def eS (s:Sto) (k by_:Nat) (old new:List AV) (len:Nat):Option ORes:=
 bif eD len by_ then match mG s (old++new) with
  | some (id,s')=>some (.val' (.sl id 0 0 len (.room k)) s')
  | none=>none
 else none
def vW (s:Sto) (t:TypeId) (x y:AV):Option ORes:=
 match P.underlying t with
 | some (.slice e)=>match qE P e,mA P e,aX P e,oM y with
   | some k,some by_,some z,some n=>match dI s k n y with
     | none=>none
     | some new=>bif Nat.beq z.cells.length k&&new.all AV.isCell then match x with
       | .nils=>bif Nat.beq n 0 then some (.val .nils) else eS s k by_ [] new n
       | .fz xs true=>bif Nat.beq n 0 then some (.val x) else match dI s k xs.length x with
         | some old=>eS s k by_ old new (xs.length+n)
         | none=>none
       | .sl id g off len (.is c)=>bif Nat.ble (len+n) c then
        match s.get id with
        | some (.cells g' m cs)=>bif Nat.beq g g'&&Nat.ble (off+c*k) m then some (.val' (.sl id g off (len+n) (.is c)) (s.put id (.cells g' m (cs.lay (off+len*k) new)))) else none
        | _=>none
         else match dI s k len x with
          | some old=>eS s k by_ old new (len+n)
          | none=>none
       | .sl id g off len (.room r)=>match s.get id with
         | some (.cells g' m cs)=>bif Nat.beq g g'&&Nat.beq k r&&Nat.beq (off+len*k) m&&eD (len+n) by_ then
          bif Nat.beq off 0 then some (.val' (.sl id (g'+1) 0 (len+n) (.room k)) (s.put id (.cells (g'+1) (m+n*k) (cs.lay m new))))
          else match cs.row off (len*k) with
          | some old=>some (.val' (.sl id (g'+1) 0 (len+n) (.room k)) (s.put id (.cells (g'+1) ((len+n)*k) (Tr.leaf.lay 0 (old++new)))))
          | none=>none
           else none
         | _=>none
       | .sl id g off len (.least r c)=>bif Nat.ble (len+n) c then
        match s.get id with
        | some (.cells g' m cs)=>bif Nat.beq g g'&&Nat.beq k r&&Nat.ble (off+c*k) m then some (.val' (.sl id g off (len+n) (eP k (len+n) c)) (s.put id (.cells g' m (cs.lay (off+len*k) new)))) else none
        | _=>none
         else none
       | _=>none
     else none
   | _,_,_,_=>none
 | _=>none
def rR (s:Sto) (t:TypeId):AV->AV->Option ORes
 | .nils,.int .i64 (.ofNat n)=>match P.underlying t with
   | some (.slice e)=>match qE P e,mA P e,aX P e with
     | some k,some by_,some z=>bif Nat.blt 0 n&&(Nat.beq z.cells.length k&&Nat.blt 0 k) then eS s k by_ [] (cQ z.cells n) n else none
     | _,_,_=>none
   | _=>none
 | _,_=>none
def PV (s:Sto) (t:TypeId):AV->Option ORes
 | .nils=>match P.underlying t with
   | some (.slice _)=>some (.val (.tuple []))
   | _=>none
 | .fz [] _=>match P.underlying t with
   | some (.slice _)=>some (.val (.tuple []))
   | _=>none
 | .sl _ _ _ 0 _=>match P.underlying t with
   | some (.slice _)=>some (.val (.tuple []))
   | _=>none
 | .sl id g off (len+1) _=>match P.underlying t with
   | some (.slice e)=>match qE P e,aX P e,s.get id with
     | some k,some z,some (.cells g' m cs)=>
       bif Nat.beq g g'&&(Nat.beq z.cells.length k&&(Nat.blt 0 k&&Nat.ble (off+(len+1)*k) m)) then some (.val' (.tuple []) (s.put id (.cells g' m (cs.lay off (cQ z.cells (len+1)))))) else none
     | _,_,_=>none
   | _=>none
 | _=>none
def aCs (s:Sto) (t:TypeId) (x y:AV):Option ORes:=
 match P.underlying t with
 | some (.slice e)=>match qE P e,oM x,oM y with
   | some k,some dn,some sn=>match dI s k (Nat.min sn dn) y with
     | none=>none
     | some new=>match x with
       | .nils=>some (.val (.int .i64 (.ofNat 0)))
       | .sl id g off _ _=>match s.get id with
         | some (.cells g' m cs)=>bif Nat.beq g g'&&Nat.ble (off+Nat.min sn dn*k) m&&new.all AV.isCell then some (.val' (.int .i64 (.ofNat (Nat.min sn dn))) (s.put id (.cells g' m (cs.lay off new)))) else none
         | _=>none
       | _=>none
   | _,_,_=>none
 | _=>none
def kF (k:TypeDesc) (v:AV):Bool:=
 match k,v with
 | .int _,.int _ _ | .string,.str _ | .bool,.bool _=>true
 | _,_=>false
def EI:AV->AV->Option Bool
 | .int k a,.int k' b=>bif decide (k=k') then some (pO a b) else none
 | .str a,.str b=>some (eO Nat.beq a b)
 | .bool a,.bool b=>some (a==b)
 | _,_=>none
def oN (k:AV):List (AV × AV × Nat)->Nat->Option (Option (Nat × AV))
 | [],_=>some none
 | (k',v,_)::es,i=>match EI k k' with
   | some true=>some (some (i,v))
   | some false=>oN k es (i+1)
   | none=>none
def aCt:List (AV × AV × Nat)->Nat->AV->AV->List (AV × AV × Nat)
 | [],_,_,_=>[]
 | (_,_,b)::es,0,k,v=>(k,v,b)::es
 | e::es,i+1,k,v=>e::aCt es i k v
def aKt:List (AV × AV × Nat)->Nat->List (AV × AV × Nat)
 | [],_=>[]
 | _::es,0=>es
 | e::es,i+1=>e::aKt es i
def iS (t:TypeId):Option (TypeDesc × TypeId):=
 match P.underlying t with
 | some (.map k e)=>match P.underlying k with
   | some d=>some (d,e)
   | none=>none
 | _=>none
def alookup (s:Sto) (t:TypeId) (m k:AV) (ok:Bool):Option AV:=
 match iS P t with
 | some (d,e)=>bif kF d k then
  match (match m with
   | .nilm=>some none
   | .map id=>match s.get id with
     | some (.map es _)=>oN k es 0
     | _=>none
   | _=>none) with
  | some (some (_,v))=>some (bif ok then .tuple [v,.bool true] else v)
  | some none=>match aX P e with
    | some z=>some (bif ok then .tuple [z,.bool false] else z)
    | none=>none
  | none=>none
   else none
 | none=>none
def dO (s:Sto) (t:TypeId) (m k v:AV):Option Sto:=
 match iS P t,m with
 | some (d,_),.map id=>bif kF d k then match s.get id with
  | some (.map es clock)=>match oN k es 0 with
    | some (some (i,_))=>some (s.put id (.map (aCt es i k v) clock))
    | some none=>some (s.put id (.map (es++[(k,v,clock)]) (clock+1)))
    | none=>none
  | _=>none
   else none
 | _,_=>none
def HT (s:Sto) (t:TypeId) (m k:AV):Option Sto:=
 match iS P t,m with
 | some (d,_),.nilm=>bif kF d k then some s else none
 | some (d,_),.map id=>bif kF d k then match s.get id with
  | some (.map es clock)=>match oN k es 0 with
    | some (some (i,_))=>some (s.put id (.map (aKt es i) clock))
    | some none=>some (s.put id (.map es clock))
    | none=>none
  | _=>none
   else none
 | _,_=>none
def eE (e:Env) (xs:Array Operand):List AV:=xs.toList.map e.eval
inductive APl where
 | val (v:AV)
 | var (a:AV)
def APl.get (s:Sto) (t:TypeId):APl->Option AV
 | .val v=>some v
 | .var a=>eB P s t a
def mV (s:Sto):List FieldStep->TypeId->APl->Option (TypeId × APl)
 | [],t,x=>some (t,x)
 | st::rest,t,x=>match P.underlying st.struct with
   | some (.struct fields)=>match fields[st.index]? with
     | some f=>
       bif st.deref then match x.get P s t with
        | some a=>match bO P st.struct a st.index with
          | some b=>mV s rest f.type (.var b)
          | none=>none
        | none=>none
       else match x with
        | .var a=>match bO P st.struct a st.index with
          | some b=>mV s rest f.type (.var b)
          | none=>none
        | .val (.agg cs)=>match mU P f.type cs f.offset with
          | some v=>mV s rest f.type (.val v)
          | none=>none
        | .val _=>none
     | none=>none
   | _=>none
def aIl:AV->Bool
 | .ptr _ _ _ | .pf _=>true
 | _=>false
def sT (s:Sto) (xt:TypeId) (x:APl) (pointer:Bool):Option AV:=
 match P.underlying xt,pointer,x with
 | some (.pointer _),true,x=>x.get P s xt
 | some (.pointer elem),false,x=>match x.get P s xt with
   | some a=>eB P s elem a
   | none=>none
 | some _,true,.var a=>bif aIl a then some a else none
 | some _,true,.val _=>none
 | some _,false,x=>x.get P s xt
 | none,_,_=>none
def sU (s:Sto) (t:TypeId) (v:AV) (name:String):Option (FuncId × AV):=
 match P.info? t with
 | some i=>match i.methods.find? (·.name==name) with
   | some m=>match mV P s m.path.toList t (.val v),m.func with
     | some (xt,x),some (f,pointer)=>match sT P s xt x pointer with
       | some r=>some (f,r)
       | none=>none
     | _,_=>none
   | none=>none
 | none=>none
inductive ATgt where
 | fn (f:FuncId) (args:List AV)
 | round (l:Nat) (args:List AV)
def fW (s:Sto) (fv:AV) (args:List AV):Option ATgt:=
 match fv with
 | .func (.func f) first cap=>some (.fn f (first++args++cap))
 | .func (.yield l) first _=>some (.round l (first++args))
 | .func (.method name) first _=>match first++args with
   | .iface t v::rest=>match sU P s t v name with
     | some (f,r)=>some (.fn f (r::rest))
     | none=>none
   | _=>none
 | .func (.methodOf t name) first _=>match P.underlying t,first++args with
   | some (.interface _),.iface t' v::rest=>match sU P s t' v name with
     | some (f,r)=>some (.fn f (r::rest))
     | none=>none
   | some (.interface _),_=>none
   | some _,v::rest=>match sU P s t v name with
     | some (f,r)=>some (.fn f (r::rest))
     | none=>none
   | _,_=>none
 | .func (.via t path f pointer) first _=>match first++args with
   | x::rest=>match mV P s path.toList t (.val x) with
     | some (xt,x)=>match sT P s xt x pointer with
       | some r=>some (.fn f (r::rest))
       | none=>none
     | none=>none
   | []=>none
 | _=>none
def eT (s:Sto):Option (CRes × ARec)->Option ORes
 | some (.ret v none,_)=>some (.val v)
 | some (.ret v (some s'),_)=>some (.val' v s')
 | some (.pan v none,_)=>some (.pan v s)
 | some (.pan v (some s'),_)=>some (.pan v s')
 | none=>none
def valO:Option AV->Option ORes
 | some v=>some (.val v)
 | none=>none
def skipO:Option Sto->Option ORes
 | some s=>some (.val' .undef s)
 | none=>none
def pU (mx:Bool):AV->List AV->Option AV
 | a,[]=>some a
 | .int k a,.int k' b::rest=>bif decide (k=k') then (HS (bif mx then (if b > a then b else a) else (if b<a then b else a)) fun c=>pU mx (.int k c) rest) else none
 | _,_::_=>none
def kG (mx:Bool):List AV->Option AV
 | []=>none
 | a::l=>pU mx a l
def oO (want:Array (String × TypeId)) (got:Array Method):Bool:=(Instr.missingMethod want got).isSome
def aV (s:Sto) (b:Builtin) (ts:Array TypeId) (l:List AV):Option ORes:=
 match b with
 | .len=>match (match ts[0]? with | some t=>P.underlying t | none=>none),l with
   | some .string,[.str s]=>some (.val (.int .i64 (.ofNat s.length)))
   | some (.slice _),[.str _]=>none
   | some (.slice _),[x]=>match oM x with
     | some n=>some (.val (.int .i64 (.ofNat n)))
     | none=>none
   | some (.array n _),[_]=>some (.val (.int .i64 (.ofNat n)))
   | some (.map _ _),[.nilm]=>some (.val (.int .i64 0))
   | some (.map _ _),[.map id]=>match s.get id with
     | some (.map es _)=>some (.val (.int .i64 (.ofNat es.length)))
     | _=>none
   | _,_=>none
 | .append=>match ts.toList,l with
   | [t,u],[x,y]=>match P.underlying u with
     | some (.int _)=>rR P s t x y
     | some _=>vW P s t x y
     | none=>none
   | _,_=>none
 | .copy=>match ts[0]?,l with
   | some t,[x,y]=>aCs P s t x y
   | _,_=>none
 | .delete=>match ts[0]?,l with
   | some t,[m,k]=>(match HT P s t m k with | some s=>some (.val' (.tuple []) s) | none=>none)
   | _,_=>none
 | .min=>valO (kG false l)
 | .max=>valO (kG true l)
 | .recover=>some .recov
 | .panic=>match l with
   | [.iface t v]=>some (.pan (.iface t v) s)
   | _=>none
 | .cap=>match (match ts[0]? with | some t=>P.underlying t | none=>none),l with
   | some (.slice _),[.nils]=>some (.val (.int .i64 0))
   | some (.slice _),[.sl _ _ _ _ (.is c)]=>some (.val (.int .i64 (.ofNat c)))
   | some (.slice _),[.fz xs true]=>some (.val (.int .i64 (.ofNat xs.length)))
   | _,_=>none
 | .clear=>match ts[0]?,l with
   | some t,[x]=>PV P s t x
   | _,_=>none
 | _=>none
def mB (b:List Nat):ByteArray:=⟨(b.map UInt8.ofNat).toArray⟩
def anext (s:Sto) (it:AV) (str:Bool):Option ORes:=bif str then (match it with
 | .ptr id 0 0=>(match s.get id with
   | some (.siter b pos)=>bif Nat.blt pos b.length then some (.val' (.tuple [.bool true,.int .i64 (.ofNat pos),.int .i32 (.ofNat (Utf8.decode (mB b) pos).1)]) (s.put id (.siter b (pos+(Utf8.decode (mB b) pos).2))))
     else some (.val (.tuple [.bool false]))
   | _=>none)
 | _=>none) else none
def gC (call:bL) (o:Oper) (e:Env):Option ORes:=
 match o.op with
 | .move x | .assign x=>some (.val (e.eval x))
 | .pick c a b=>match e.eval c with
   | .bool true=>some (.val (e.eval a))
   | .bool false=>some (.val (e.eval b))
   | _=>none
 | .alloc t=>match aX P t with
   | some z=>match mG e.s z.cells with
     | some (id,s)=>some (.val' (.ptr id 0 0) s)
     | none=>none
   | none=>none
 | .box _ x=>match e.eval x with
   | .top=>none
   | v=>match mG e.s v.cells with
     | some (id,s)=>some (.val' (.ptr id 0 0) s)
     | none=>none
 | .build t parts=>valO (nK P t (parts.toList.map fun p=>(p.1,e.eval p.2)))
 | .buildSlice t len parts=>match P.underlying t with
   | some (.slice el)=>match qE P el with
     | some k=>bif Nat.ble (len*k) (2 ^ 24) then
      match (bif Nat.beq (len*k) 0 then some [] else match aX P el with | some z=>some (cQ z.cells len) | none=>none) with
      | some zs=>bif Nat.beq zs.length (len*k) then
       match eC (fun i=>some (i*k,k)) zs (parts.toList.map fun p=>(p.1,e.eval p.2)) with
       | some cs=>match mG e.s cs with
         | some (id,s)=>some (.val' (.sl id 0 0 len (.is len)) s)
         | none=>none
       | none=>none
        else none
      | none=>none
       else none
     | none=>none
   | _=>none
 | .load t a=>valO (eB P e.s t (e.eval a))
 | .store t a x=>skipO (kM P e.s t (e.eval a) (e.eval x))
 | .nilCheck x=>match e.eval x with
   | .ptr i g o=>some (.val (.ptr i g o))
   | .pf v=>some (.val (.pf v))
   | .func (.func f) a c=>some (.val (.func (.func f) a c))
   | .iface t v=>some (.val (.iface t v))
   | _=>none
 | .binOp op t x y _=>valO (cX P op t x y (e.eval x) (e.eval y))
 | .unOp op _ x=>valO (aun op (e.eval x))
 | .convert src dst x=>iB P e.s src dst (e.eval x)
 | .sliceToArrayPointer arr x=>match P.underlying arr,e.eval x with
   | some (.array n _),.sl id g off len _=>bif Nat.ble n len then some (.val (.ptr id g off)) else none
   | _,_=>none
 | .makeInterface t x=>match P.underlying t with
   | some (.interface _)=>none
   | some _=>some (.val (.iface t (e.eval x)))
   | none=>none
 | .makeFunc fn first cap=>match fn with
   | .yield _=>none
   | fn=>some (.val (.func fn (eE e first) (eE e cap)))
 | .makeMap t r=>match (match r with | none=>some true | some h=>match P.underlying t,e.eval h with | some (.map _ _),.int _ _=>some true | _,_=>none) with
   | some _=>some (.val' (.map e.s.n) (e.s.push (.map [] 0)))
   | none=>none
 | .makeSlice t l c=>match P.underlying t,e.eval l,e.eval c with
   | some (.slice el),.int _ (.ofNat l),.int _ (.ofNat c)=>match qE P el,mA P el,aX P el with
     | some k,some by_,some z=>bif Nat.ble l c&&Nat.ble (by_*c) (2 ^ 47)&&Nat.ble c (2 ^ 62)&&Nat.beq z.cells.length k then
      match mG e.s (cQ z.cells c) with
      | some (id,s)=>some (.val' (.sl id 0 0 l (.is c)) s)
      | none=>none
       else none
     | _,_,_=>none
   | _,_,_=>none
 | .slice t x lo hi mx=>valO (eQ P t (e.eval x) (lo.map e.eval) (hi.map e.eval) (mx.map e.eval))
 | .fieldAddr t x f=>valO (bO P t (e.eval x) f)
 | .field t x f=>valO (nL P t (e.eval x) f)
 | .indexAddr t x i=>valO (bP P t (e.eval x) (e.eval i))
 | .index t x i=>valO (pS P t (e.eval x) (e.eval i))
 | .lookup t m k ok=>valO (alookup P e.s t (e.eval m) (e.eval k) ok)
 | .mapUpdate t m k x | .insert t m k x=>skipO (dO P e.s t (e.eval m) (e.eval k) (e.eval x))
 | .range t x=>match P.underlying t,e.eval x with
   | some .string,.str b=>some (.val' (.ptr e.s.n 0 0) (e.s.push (.siter b 0)))
   | _,_=>none
 | .next it str=>anext e.s (e.eval it) str
 | .typeAssert x _ t ok=>match P.underlying t,e.eval x with
   | some (.interface _),.nili=>bif ok then (match aX P t with | some z=>some (.val (.tuple [z,.bool false])) | none=>none) else none
   | some (.interface want),.iface d v=>match P.info? d with
     | some i=>bif oO want i.methods then (bif ok then (match aX P t with | some z=>some (.val (.tuple [z,.bool false])) | none=>none) else none)
      else some (.val (bif ok then .tuple [.iface d v,.bool true] else .iface d v))
     | none=>none
   | some _,.nili=>bif ok then (match aX P t with | some z=>some (.val (.tuple [z,.bool false])) | none=>none) else none
   | some _,.iface d v=>bif Nat.beq d t then some (.val (bif ok then .tuple [v,.bool true] else v))
    else bif ok then (match aX P t with | some z=>some (.val (.tuple [z,.bool false])) | none=>none) else none
   | _,_=>none
 | .extract x i=>match e.eval x with
   | .tuple vs=>valO vs[i]?
   | _=>none
 | .call c=>match c.callee with
   | .builtin b=>aV P e.s b c.argTypes (eE e c.args)
   | .value f=>eT e.s (call (e.eval f) (eE e c.args) e.s .no)
   | .invoke recv name=>eT e.s (call (.func (.method name) [e.eval recv] []) (eE e c.args) e.s .no)
 | .defer c=>match c.callee,e.ro with
   | .value f,none=>match e.eval f with
     | .func fn a b=>some (.defer (.call (.func fn a b) (eE e c.args)))
     | _=>none
   | _,_=>none
 | .panic x=>match e.eval x with
   | .iface t v=>some (.pan (.iface t v) e.s)
   | _=>none
 | _=>none
end ops
def AV.under (n:Nat):Nat->AV->Bool
 | 0,_=>false
 | d+1,v=>match v with
   | .top | .bool _ | .int _ _ | .str _ | .nilp | .nils | .nilm | .nilf | .nili=>true
   | .ptr i _ _ | .sl i _ _ _ _ | .map i=>Nat.blt i n
   | .pf v | .iface _ v=>v.under n d
   | .fz l _ | .agg l | .tuple l=>l.all (AV.under n d)
   | .func f a c=>(match f with | .yield l=>Nat.blt l n | _=>true)&&a.all (AV.under n d)&&c.all (AV.under n d)
def cD (ops:List Oper) (o:Oper) (e:Env):Option Bool:=
 match o.guard with
 | none=>some true
 | some (j,want)=>match (match ops[j]? with | some g=>g.dst | none=>none) with
   | none=>some false
   | some d=>match e.t.get d with
     | some (.bool b)=>some (b==want)
     | some (.tuple _)=>some false
     | _=>none
def gA (P:Program) (call:bL) (ops:List Oper):List Oper->Env->Option (Ex × Env)
 | [],e=>some (.normal,e)
 | o::rest,e=>match cD ops o e with
   | none=>none
   | some false=>match e.put o.dst .undef with
     | some e'=>gA P call ops rest e'
     | none=>none
   | some true=>match gC P call o e with
     | none=>none
     | some (.val v)=>match e.put o.dst v with
       | some e'=>gA P call ops rest e'
       | none=>none
     | some (.val' v s)=>match (e.setS s).put o.dst v with
       | some e'=>gA P call ops rest e'
       | none=>none
     | some (.pan v s)=>some (.panic v,{e with s:=s})
     | some (.defer d)=>match (e.setDs (d::e.ds)).put o.dst .undef with
       | some e'=>gA P call ops rest e'
       | none=>none
     | some .recov=>match e.ro,e.r with
       | none,.pan v=>match (e.setR (.recd v)).put o.dst v with
         | some e'=>gA P call ops rest e'
         | none=>none
       | none,_=>match e.put o.dst .nili with
         | some e'=>gA P call ops rest e'
         | none=>none
       | some _,_=>none
def LI (acc:List Nat) (o:Oper):Nat:=
 o.after.toList.foldl (fun m e=>bif Region.binds .any e then m ||| (2 ^ e.on ||| acc.getD e.on 0) else m) 0
def pV:List Oper->List Nat->List Nat
 | [],acc=>acc
 | o::rest,acc=>pV rest (acc++[LI acc o])
def cA (ops:List Oper):List Nat:=pV ops []
def kN (ops:List Oper) (o:Oper):List Nat:=
 o.dst.toList++(o.op.operands.toList.filterMap fun | .tmp t=>some t | _=>none)++
  (match o.guard with | some (j,_)=>(match ops[j]? with | some g=>g.dst.toList | none=>[]) | none=>[])
def HU (o:Oper) (l:List Nat):Bool:=match o.dst with | some d=>l.elem d | none=>false
def PW (ops:List Oper) (as:List Nat) (i:Nat) (oi:Oper) (j:Nat) (oj:Oper):Bool:=
 !(HU oi (kN ops oj)||HU oj (kN ops oi))||(as.getD j 0).testBit i
def zK (ops:List Oper) (as:List Nat):List Oper->Nat->Bool
 | [],_=>true
 | o::rest,i=>((rest.zipIdx (i+1)).all fun p=>PW ops as i o p.2 p.1)&&zK ops as rest (i+1)
def RZ (ops:List Oper):Bool:=ops.zipIdx.all fun p=>p.1.after.toList.all fun e=>!Region.binds .any e||Nat.blt e.on p.2
def aCu (ops:List Oper):Bool:=ops.all fun o=>match o.op with | .select ..=>false | _=>true
def mC (ops:List Oper):Bool:=aCu ops&&RZ ops&&zK ops (cA ops) ops 0
def eU:Op->Bool
 | .move _ | .assign _ | .pick _ _ _ | .build _ _ | .nilCheck _ | .binOp _ _ _ _ _ | .unOp _ _ _ | .sliceToArrayPointer _ _ | .makeInterface _ _
 | .makeFunc _ _ _ | .slice _ _ _ _ _ | .fieldAddr _ _ _ | .field _ _ _ | .indexAddr _ _ _ | .index _ _ _ | .typeAssert _ _ _ _ | .extract _ _=>true
 | _=>false
def cO:Op->Bool
 | .alloc _ | .box _ _ | .buildSlice _ _ _ | .makeMap _ _ | .makeSlice _ _ _=>true
 | _=>false
structure TrE where
 i:Nat
 o:Oper
 e:Env
 v:AV
 run:Bool
 chg:Bool
def TrE.isNew (x:TrE):Bool:=x.chg&&cO x.o.op
def TrE.isChg (x:TrE):Bool:=x.chg && !cO x.o.op
abbrev TrR:=List TrE × Env × Option (AV × Sto)
def nM (x:TrE):Option TrR->Option TrR
 | some (l,f,p)=>some (x::l,f,p)
 | none=>none
def zL (P:Program) (call:bL) (ops:List Oper):List Oper->Nat->Env->Option TrR
 | [],_,e=>some ([],e,none)
 | o::rest,i,e=>match cD ops o e with
   | none=>none
   | some false=>match e.put o.dst .undef with
     | some e'=>nM {i,o,e,v:=.undef,run:=false,chg:=false} (zL P call ops rest (i+1) e')
     | none=>none
   | some true=>match gC P call o e with
     | some (.val v)=>match e.put o.dst v with
       | some e'=>nM {i,o,e,v,run:=true,chg:=false} (zL P call ops rest (i+1) e')
       | none=>none
     | some (.val' v s)=>match (e.setS s).put o.dst v with
       | some e'=>nM {i,o,e,v,run:=true,chg:=true} (zL P call ops rest (i+1) e')
       | none=>none
     | some (.pan v s)=>some ([{i,o,e,v,run:=true,chg:=true}],{e with s:=s},some (v,s))
     | _=>none
def bY:List TrE->List Sto
 | []=>[]
 | x::l=>bif x.isChg then x.e.s::bY l else bY l
def cY (l:List TrE):List Nat:=(l.filter TrE.isChg).map (·.i)
def jL (l:List TrE):List (Nat × Nat):=(l.filter TrE.isNew).map fun x=>(x.i,x.e.s.n)
def eV (as:List Nat):List Nat->Bool
 | []=>true
 | [_]=>true
 | c::d::rest=>(as.getD d 0).testBit c&&eV as (d::rest)
def rS (as:List Nat) (ns:List (Nat × Nat)) (cs:List Nat):Bool:=
 cs.all fun c=>ns.all fun n=>Nat.blt c n.1||(as.getD c 0).testBit n.1
def isVal (v:AV):Option ORes->Bool
 | some (.val w)=>AV.beq 10000 v w
 | _=>false
def lB (as:List Nat) (i:Nat):List (Nat × Nat)->Sto->Sto
 | [],s=>s
 | n::ns,s=>bif (as.getD i 0).testBit n.1 then lB as i ns s else lB as i ns {s with o:=s.o.del n.2}
def gK (P:Program) (call:bL) (n:Nat) (as:List Nat) (ns:List (Nat × Nat)) (x:TrE):List Nat->List Sto->Bool
 | [],[s]=>isVal x.v (gC P call x.o {x.e with s:={lB as x.i ns s with n:=n}})
 | c::cs,s::ss=>
   (bif (as.getD x.i 0).testBit c then true else isVal x.v (gC P call x.o {x.e with s:={lB as x.i ns s with n:=n}})) &&
   (bif (as.getD c 0).testBit x.i then true else gK P call n as ns x cs ss)
 | _,_=>false
def keptY (n0:Nat) (as:List Nat) (ns:List (Nat × Nat)) (i id:Nat):Prop:=id<n0∨∃ k,(k,id)∈ns/\(as.getD i 0).testBit k=true
def PX (P:Program) (call:bL) (Y:Nat->Prop) (x:TrE):Prop:=∀ s':Sto,(∀ id,Y id->s'.get id=x.e.s.get id)->gC P call x.o {x.e with s:=s'} = some (.val x.v)
def mW (P:Program) (call:bL) (as:List Nat) (n0:Nat) (ns:List (Nat × Nat)) (cs:List Nat) (x:TrE):Bool:=
 (cs.all fun c=>(as.getD x.i 0).testBit c||(as.getD c 0).testBit x.i) && @decide (PX P call (keptY n0 as ns x.i) x) (Classical.propDecidable _)
def PY (Y:Nat->Prop) (s s0:Sto):Prop:=∀ id,Y id->s.get id=s0.get id
def xI (as:List Nat) (i:Nat) (m:Nat->Prop) (s0:Sto):List Nat->List Sto->Prop
 | [],ss=>∀ s∈ss,PY m s s0
 | c::cs,s::ss=>PY m s s0/\((∀ c'∈c::cs,(as.getD c' 0).testBit i=true)∨xI as i m s0 cs ss)
 | _::_,[]=>False
def pW (P:Program) (call:bL) (as:List Nat) (n0:Nat) (cs:List Nat) (ss:List Sto) (x:TrE):Bool:=
 @decide (∃ Y:Nat->Prop,(∀ id,Y id->id<n0)/\xI as x.i Y x.e.s cs ss/\PX P call Y x) (Classical.propDecidable _)
def aKv (as:List Nat) (ns:List (Nat × Nat)) (cs:List Nat) (x:TrE):Bool:=
 (cs.all fun c=>(as.getD x.i 0).testBit c||(as.getD c 0).testBit x.i)&&ns.all fun n=>(as.getD x.i 0).testBit n.1||(as.getD n.1 0).testBit x.i
def jR (P:Program) (call:bL) (n n0:Nat) (as:List Nat) (ns:List (Nat × Nat)) (cs:List Nat) (ss:List Sto):List TrE->Bool
 | []=>true
 | x::l=>(x.chg || !x.run||eU x.o.op||aKv as ns cs x||gK P call n as ns x cs ss||mW P call as n0 ns cs x||pW P call as n0 cs ss x)&&jR P call n n0 as ns cs ss l
def eF (P:Program) (call:bL) (n n0:Nat) (as:List Nat) (l:List TrE) (last:Sto):Bool:=match cY l,jL l with
 | [],[]=>true
 | _,_=>jR P call n n0 as (jL l) (cY l) (bY l++[last]) l
def unb (n:Nat) (v:AV):Bool:=v.under n 100 || @decide (∃ d,v.under n d=true) (Classical.propDecidable _)
def iC (l:List TrE):Bool:=l.all fun x=>!x.chg||(x.o.op.operands.toList.all fun y=>unb x.e.s.n (x.e.eval y))
def gB:List TrE->Nat->Bool
 | [],_=>true
 | [x],n=>Nat.ble x.e.s.n n
 | x::y::l,n=>Nat.ble x.e.s.n y.e.s.n&&gB (y::l) n
def eW (e:Env):List Oper->Env
 | []=>e
 | o::rest=>match o.dst with
   | some d=>eW {e with t:=e.t.del d} rest
   | none=>eW e rest
def iT (as:List Nat) (c:Nat):List Oper->Nat->Bool
 | [],_=>true
 | _::rest,i=>(!Nat.blt c i||(as.getD i 0).testBit c)&&iT as c rest (i+1)
def vX (P:Program) (call:bL) (ops:List Oper) (e:Env):Option (Ex × Env):=
 match zL P call ops ops 0 e with
 | none=>none
 | some (l,f,p)=>
   let as:=cA ops
   let cs:=cY l
   let ns:=jL l
   bif P.follows .mixedOrders&&mC ops&&eV as cs&&rS as ns cs&&gB l f.s.n&&iC l&&eF P call f.s.n e.s.n as l f.s then
    match p with
    | none=>some (.normal,f)
    | some (v,s)=>bif iT as (l.length-1) ops 0 then some (.panic v,eW {e with s:=s} ops) else none
   else none
def mX (P:Program) (call:bL) (ops:List Oper) (draw:Bool) (e:Env):Option (Ex × Env):=
 bif draw then vX P call ops e else gA P call ops ops e
def loopGo (f:Env->Option (Ex × Env)):Nat->Env->Option (Ex × Env)
 | 0,_=>none
 | n+1,e=>match f e with
   | some (.normal,e')=>loopGo f n e'
   | r=>r
def cL (e:Env) (ds:List ADef) (lid:Nat) (s:Sto):Option (Ex × Env):=
 match s.get lid with
 | some (.loop st pend fn nt t ps a b d)=>match st with
   | .busy=>none
   | _=>
     let e':Env:={e with s:=s.put lid (.loop .exhausted pend fn nt t ps a b d),ds:=ds}
     match pend with
     | none=>some (.normal,e')
     | some .ret=>some (.ret,e')
     | some (.exit id)=>some (.exit id,e')
     | some _=>none
 | _=>none
def tZ (call:bL) (f:Operand) (params:Array Tmp) (assign body:Code) (e:Env):Option (Ex × Env):=
 match (match e.ro with
  | none=>some (e.s.push (.defs (some [])),e.s.n,ADef.collected e.s.n::e.ds)
  | some l=>match e.s.get l with
    | some (.loop _ _ _ _ _ _ _ _ d)=>some (e.s,d,e.ds)
    | _=>none) with
 | none=>none
 | some (s1,d,ds)=>
   let s2:=s1.push (.loop .ready none e.fn e.nt e.t params.toList assign body d)
   match call (e.eval f) [.func (.yield s1.n) [] []] s2 .no with
   | some (.ret _ so,_)=>cL e ds s1.n (match so with | some s=>s | none=>s2)
   | some (.pan v so,_)=>some (.panic v,{e with s:=(match so with | some s=>s | none=>s2),ds:=ds})
   | none=>none
def bA (P:Program) (call:bL) (n:Nat):Code->Env->Option (Ex × Env)
 | .skip,e=>some (.normal,e)
 | .label _,e=>some (.normal,e)
 | .region _ ops draw,e=>mX P call ops.toList draw e
 | .seq a b,e=>match bA P call n a e with
   | some (.normal,e')=>bA P call n b e'
   | r=>r
 | .cond c x y,e=>match e.eval c with
   | .bool true=>bA P call n x e
   | .bool false=>bA P call n y e
   | _=>none
 | .block id c,e=>match bA P call n c e with
   | some (.exit i,e')=>bif Nat.beq i id then some (.normal,e') else some (.exit i,e')
   | r=>r
 | .loop c,e=>loopGo (bA P call n c) n e
 | .scope c,e=>match bA P call n c e with
   | some (.goto _,_)=>none
   | r=>r
 | .exit id,e=>some (.exit id,e)
 | .ret,e=>some (.ret,e)
 | .rangeFunc f ps a b,e=>tZ call f ps a b e
 | .goto _,_=>none
 | .refuse _,_=>none
def aP (P:Program) (e:Env):List ResultVar->Option (List AV)
 | []=>some []
 | .tmp t::l=>match aP P e l with
   | some r=>some ((match e.t.get t with | some v=>v | none=>.top)::r)
   | none=>none
 | .cell a t::l=>match eB P e.s t (match e.t.get a with | some v=>v | none=>.top) with
   | some v=>match aP P e l with
     | some r=>some (v::r)
     | none=>none
   | none=>none
def CM (n:Nat):ARec->Bool
 | .no=>true
 | .pan v | .recd v=>v.under n 100
def cT (s:Sto) (v:AV) (e:Env):Option Sto:=
 bif Nat.ble s.n e.s.low&&(v.under s.n 100&&CM s.n e.r) then none else some {e.s with low:=Nat.min s.low e.s.low}
def vY:AV->Bool
 | .func (.yield _) _ _=>true
 | _=>false
inductive LRes where
 | ret (v:AV)
 | pan (v:AV)
def dleave (P:Program) (call:bL) (fn:Func):Nat->Option AV->Env->Option (LRes × Env)
 | 0,_,_=>none
 | m+1,mode,e=>match e.ds with
   | []=>match mode with
     | none=>match aP P e fn.results.toList with
       | some [v]=>some (.ret v,e)
       | some l=>some (.ret (.tuple l),e)
       | none=>none
     | some v=>some (.pan v,e)
   | .collected id::ds=>match e.s.get id with
     | some (.defs (some l))=>dleave P call fn m mode {e with ds:=l++ds,s:=e.s.put id (.defs none)}
     | _=>none
   | .call fv args::ds=>bif vY fv then none else match mode with
     | none=>match call fv args e.s .no with
       | some (.ret _ so,.no)=>dleave P call fn m none {e with ds:=ds,s:=(match so with | some s=>s | none=>e.s)}
       | some (.pan v so,.no)=>dleave P call fn m (some v) {e with ds:=ds,s:=(match so with | some s=>s | none=>e.s)}
       | _=>none
     | some p=>match call fv args e.s (.pan p) with
       | some (.ret _ so,.recd _)=>dleave P call fn m none {e with ds:=ds,s:=(match so with | some s=>s | none=>e.s)}
       | some (.ret _ so,.pan p')=>dleave P call fn m (some p') {e with ds:=ds,s:=(match so with | some s=>s | none=>e.s)}
       | _=>none
def sY (s:Sto):Option (LRes × Env)->Option (CRes × ARec)
 | some (.ret v,e)=>some (.ret v (cT s v e),e.r)
 | some (.pan v,e)=>some (.pan v (cT s v e),e.r)
 | none=>none
def okFn (P:Program) (f:FuncId):Bool:=match P.funcs[f]? with
 | some fn=>fn.name != "runtime.NumGoroutine" && fn.body.isSome
 | none=>false
def mY (P:Program) (call:bL) (n:Nat) (f:FuncId) (args:List AV) (s:Sto) (r:ARec):Option (CRes × ARec):=
 bif okFn P f then match P.funcs[f]? with
  | some fn=>match fn.body with
    | some c=>
      match bA P call n c {nt:=Nat.max args.length fn.ntmps,ro:=none,fn:=f,t:=Tr.leaf.lay 0 args,ds:=[],s:={s with low:=s.n},r:=r} with
      | some (.normal,e)=>sY s (dleave P call fn n none e)
      | some (.ret,e)=>sY s (dleave P call fn n none e)
      | some (.panic v,e)=>sY s (dleave P call fn n (some v) e)
      | _=>none
    | none=>none
  | none=>none
 else none
def rT (nt:Nat):Tr AV->List Nat->List AV->Option (Tr AV)
 | t,p::ps,a::as=>bif Nat.blt p nt then rT nt (t.set p a) ps as else none
 | t,[],[]=>some t
 | _,_,_=>none
def dD (s:Sto) (l:Nat) (jump:Option Code) (e:Env):Option (CRes × ARec):=
 match e.s.get l,e.ds with
 | some (.loop _ _ fn nt t ps a b d),[]=>
   some (.ret (.bool jump.isNone) (some {e.s.put l (.loop (bif jump.isNone then .ready else .done) jump fn nt t ps a b d) with low:=Nat.min s.low (e.s.put l (.loop .ready none fn nt t ps a b d)).low}),.no)
 | _,_=>none
def kO (P:Program) (call:bL) (n:Nat) (l:Nat) (args:List AV) (s:Sto):Option (CRes × ARec):=
 match s.get l with
 | some (.loop st pend fn nt t ps a b d)=>match rT nt t ps args with
   | some t'=>match bA P call n a {nt:=nt,ro:=some l,fn:=fn,t:=t',ds:=[],s:={s with low:=s.n},r:=.no} with
     | some (.normal,e)=>match e.s.get l with
       | some (.loop .ready pend' fn' nt' t'' ps' a' b' d')=>
         match bA P call n b {e with s:=e.s.put l (.loop .busy pend' fn' nt' t'' ps' a' b' d')} with
         | some (.normal,e)=>dD s l none e
         | some (.ret,e)=>dD s l (some .ret) e
         | some (.exit id,e)=>dD s l (some (.exit id)) e
         | some (.panic v,e)=>match e.ds with
           | []=>bif okFn P e.fn then some (.pan v (some {e.s with low:=Nat.min s.low e.s.low}),.no) else none
           | _=>none
         | _=>none
       | _=>none
     | _=>none
   | none=>none
 | _=>none
abbrev bN:=FuncId->List AV->Sto->Option CRes
def CN (O:bN) (fv:AV) (args:List AV) (s:Sto) (r:ARec):Option CRes:=match r with
 | .no=>(match fv with
   | .func (.func g) first cap=>O g (first++args++cap) s
   | _=>none)
 | _=>none
def aO (P:Program) (O:bN):Nat->bL
 | 0=>fun _ _ _ _=>none
 | n+1=>fun fv args s r=>match CN O fv args s r with
   | some res=>some (res,.no)
   | none=>match fW P s fv args with
     | some (.fn f args)=>mY P (aO P O n) n f args s r
     | some (.round l args)=>(match r with | .no=>kO P (aO P O n) n l args s | _=>none)
     | none=>none
abbrev kI:=List (FuncId × List AV × AV)
def kH:kI->bN
 | [],_,_,_=>none
 | x::T,f,args,s=>bif Nat.beq x.1 f&&eO (AV.beq 1000) x.2.1 args then some (.ret x.2.2 none) else kH T f args s
def Sto.empty:Sto:={n:=0,low:=0,o:=.leaf}
def aNv (P:Program) (O:bN) (n:Nat) (f:FuncId) (args:List AV):Option (CRes × ARec):=mY P (aO P O n) n f args .empty .no
def aNw (P:Program) (O:bN) (n:Nat) (f:FuncId) (args:List AV) (v:AV):Bool:=args.all (AV.under 0 100)&&match aNv P O n f args with
 | some (.ret w none,.no)=>AV.beq 1000 v w
 | _=>false
end
end Go.Abs
