/- Lemmas. -/
import Derived.AtR
import Derived.Orders
set_option linter.unusedVariables false
namespace Go
theorem il{p:Prop}(h:p:=by omega):p:=h
theorem ip{p:Prop}(h:p:=by simp):p:=h
theorem iq{p:Prop}(h:p:=by decide):p:=h
theorem h1{p:Prop}(h:p:=by assumption):p:=h
end Go
theorem _root_.Go.iz{p:Prop}(h:p:=by split<;>omega):p:=h
namespace Go.Abs
noncomputable section
inductive Tr (α:Type) where
 | leaf
 | node (v:Option α) (l r:Tr α)
def Tr.get{α:Type}(t:Tr α):Nat->Option α:=@Tr.rec α (λ_=>Nat->Option α) (λ_=>none) (λv _ _ a b i=>@Bool.rec (λ_=>Option α) (@Bool.rec (λ_=>Option α) (b (Nat.sub (Nat.div i 2) 1)) (a (Nat.div i 2)) (Nat.beq (Nat.mod i 2) 1)) v (Nat.beq i 0)) t
def hg{α:Type}(f:Nat):Tr α->Nat->Option α->Tr α:=@Nat.rec (λ_=>Tr α->Nat->Option α->Tr α) (λt _ _=>t) (λ_ b t i a=>@Tr.rec α (λ_=>Tr α) (@Bool.rec (λ_=>Tr α) (@Bool.rec (λ_=>Tr α) (.node none .leaf (b .leaf (Nat.sub (Nat.div i 2) 1) a)) (.node none (b .leaf (Nat.div i 2) a) .leaf) (Nat.beq (Nat.mod i 2) 1)) (.node a .leaf .leaf) (Nat.beq i 0)) (λv l r _ _=>@Bool.rec (λ_=>Tr α) (@Bool.rec (λ_=>Tr α) (.node v l (b r (Nat.sub (Nat.div i 2) 1) a)) (.node v (b l (Nat.div i 2) a) r) (Nat.beq (Nat.mod i 2) 1)) (.node a l r) (Nat.beq i 0)) t) f
def Tr.set{α:Type}(t:Tr α)(i:Nat)(a:α):Tr α:=hg (i+1) t i (some a)
def Tr.del{α:Type}(t:Tr α)(i:Nat):Tr α:=hg (i+1) t i none
def Tr.lay{α:Type}:Tr α->Nat->List α->Tr α|t,_,[]=>t|t,i,a::l=>Tr.lay (t.set i a) (i+1) l
def Tr.row{α:Type}(t:Tr α):(i n:Nat)->Option (List α)|_,0=>some []|i,n+1=>match t.get i with|none=>none|some a=>match t.row (i+1) n with|none=>none|some l=>some (a::l)
inductive ACap where
 | is (c:Nat)
 | room (k:Nat)
 | least (k c:Nat)
inductive AV where
 | top
 | bool (b:Bool)
 | int (k:IntKind) (n:Int)
 | str (s:List Nat)
 | nilp
 | ptr (id gen off:Nat)
 | pf (v:AV)
 | nils
 | sl (id gen off len:Nat) (cap:ACap)
 | fz (l:List AV) (clip:Bool)
 | nilm
 | map (id:Nat)
 | func (fn:Fn) (first captured:List AV)
 | nilf
 | iface (t:TypeId) (v:AV)
 | nili
 | agg (cs:List AV)
 | tuple (vs:List AV)
def AV.undef:AV:=.tuple []
def AV.cells:AV->List AV| .agg cs=>cs|v=>[v]
def AV.isCell:AV->Bool| .top| .agg _| .tuple _=>false|_=>true
inductive ADef where
 | call (fv:AV) (args:List AV)
 | collected (id:Nat)
inductive AObj where
 | cells (gen n:Nat) (c:Tr AV)
 | map (es:List (AV × AV × Nat)) (clock:Nat)
 | siter (s:List Nat) (pos:Nat)
 | loop (state:LoopState) (pending:Option Code) (fn:FuncId) (nt:Nat) (t:Tr AV) (params:List Nat) (assign body:Code) (defers:Nat)
 | defs (ds:Option (List ADef))
structure Sto where
 n:Nat
 low:Nat
 o:Tr AObj
def Sto.get(s:Sto)(i:Nat):Option AObj:=bif Nat.blt i s.n then s.o.get i else none
def Sto.push(s:Sto)(x:AObj):Sto:={n:=s.n+1,low:=s.low,o:=s.o.set s.n x}
def Sto.put(s:Sto)(i:Nat)(x:AObj):Sto:={n:=s.n,low:=bif Nat.blt i s.low then i else s.low,o:=s.o.set i x}
inductive ARec where
 | no
 | pan (v:AV)
 | recd (v:AV)
structure Env where
 nt:Nat
 ro:Option Nat
 fn:FuncId
 t:Tr AV
 ds:List ADef
 s:Sto
 r:ARec
inductive Ex where
 | normal
 | exit (id:Nat)
 | goto (l:Nat)
 | ret
 | panic (v:AV)
inductive CRes where
 | ret (v:AV) (s:Option Sto)
 | pan (v:AV) (s:Option Sto)
abbrev cE:=AV->List AV->Sto->ARec->Option (CRes × ARec)
inductive ORes where
 | val (v:AV)
 | val' (v:AV) (s:Sto)
 | pan (v:AV) (s:Sto)
 | defer (d:ADef)
 | recov
def aLo:List Value->Option (List AV)|[]=>some []|v::l=>match(match v with| .bool b=>some (AV.bool b)| .int k n=>some (AV.int k n)| .string s=>some (AV.str (s.data.toList.map (·.toNat)))| .pointer none=>some AV.nilp| .slice none 0 0=>some AV.nils| .map none=>some AV.nilm| .nilFunc=>some AV.nilf| .nilIface=>some AV.nili|_=>none)with|none=>none|some a=>match aLo l with|none=>none|some r=>some (a::r)
def NP:Value->AV| .agg cs=>(match aLo cs.toList with|some l=>.agg l|none=>.top)|v=>match aLo [v]with|some [a]=>a|_=>.top
def Env.eval(e:Env):Operand->AV| .tmp t=>(match e.t.get t with|some v=>v|none=>.top)| .const v=>NP v| .global _=>.top| .func f=>.func (.func f) [] []
def Env.put(e:Env)(dst:Option Tmp)(v:AV):Option Env:=match dst with|none=>some e|some d=>match e with|⟨nt,ro,fn,t,ds,s,r⟩=>bif Nat.blt d nt then some ⟨nt,ro,fn,t.set d v,ds,s,r⟩else none
def Env.setS(e:Env)(s':Sto):Env:=match e with|⟨nt,ro,fn,t,ds,_,r⟩=>⟨nt,ro,fn,t,ds,s',r⟩
def Env.setDs(e:Env)(a:List ADef):Env:=match e with|⟨nt,ro,fn,t,_,s,r⟩=>⟨nt,ro,fn,t,a,s,r⟩
def Env.setR(e:Env)(a:ARec):Env:=match e with|⟨nt,ro,fn,t,ds,s,_⟩=>⟨nt,ro,fn,t,ds,s,a⟩
section types
variable (P:Program)
def wC(t:TypeId):Option Nat:=(P.info? t).map (·.size)
def rM(t:TypeId):Option Nat:=(P.info? t).map (·.bytes)
def LU:TypeDesc->Bool| .struct _| .array _ _=>true|_=>false
def HN(t:TypeId):Option Bool:=(P.underlying t).map LU
def bN(t:TypeId):Option AV:=match(P.info? t).bind (·.zero)with|some v=>(match NP v with| .top=>none|a=>some a)|none=>none
end types
def iQ{α:Type}(f:α->α->Bool):List α->List α->Bool|[],[]=>true|a::l,b::m=>f a b&&iQ f l m|_,_=>false
def pJ:Int->Int->Bool| .ofNat a,.ofNat b=>Nat.beq a b| .negSucc a,.negSucc b=>Nat.beq a b|_,_=>false
def aDi:ACap->ACap->Bool| .is a,.is b=>Nat.beq a b| .room a,.room b=>Nat.beq a b| .least a c,.least b d=>Nat.beq a b&&Nat.beq c d|_,_=>false
def aZg(a b:Fn):Bool:=decide (a=b)
def AV.beq:Nat->AV->AV->Bool|0,_,_=>false|d+1,a,b=>match a,b with| .bool a,.bool b=>a==b| .int j a,.int k b=>decide (j=k)&&pJ a b| .str a,.str b=>iQ Nat.beq a b| .nilp,.nilp| .nils,.nils| .nilm,.nilm| .nilf,.nilf| .nili,.nili=>true| .ptr i g o,.ptr p g' o'=>Nat.beq i p&&Nat.beq g g'&&Nat.beq o o'| .pf v,.pf w=>AV.beq d v w| .sl i g o n c,.sl p g' o' q h=>Nat.beq i p&&Nat.beq g g'&&Nat.beq o o'&&Nat.beq n q&&aDi c h| .fz l c,.fz m h=>iQ (AV.beq d) l m&&(c==h)| .map i,.map j=>Nat.beq i j| .func f a c,.func g b e=>aZg f g&&iQ (AV.beq d) a b&&iQ (AV.beq d) c e| .iface t v,.iface u w=>Nat.beq t u&&AV.beq d v w| .agg a,.agg b=>iQ (AV.beq d) a b| .tuple a,.tuple b=>iQ (AV.beq d) a b|_,_=>false
section ops
variable (P:Program)
def aS{α:Type}(l:List α)(i n:Nat):List α:=(l.drop i).take n
def nU(t:TypeId)(cs:List AV)(off:Nat):Option AV:=match HN P t,wC P t with|some true,some n=>bif Nat.ble (off+n) cs.length then some (.agg (aS cs off n))else none|some false,_=>cs[off]?|_,_=>none
def gU(s:Sto)(t:TypeId):AV->Option AV| .ptr id g off=>(match s.get id with|some (.cells g' n c)=>bif Nat.beq g g' then match HN P t,wC P t with|some true,some k=>bif Nat.ble (off+k) n then(match c.row off k with|some l=>some (.agg l)|none=>none)else none|some false,_=>bif Nat.blt off n then c.get off else none|_,_=>none else none|_=>none)| .pf v=>(match HN P t,wC P t,v with|some true,some k,.agg cs=>bif Nat.beq cs.length k then some v else none|some false,_,v=>bif v.isCell then some v else none|_,_,_=>none)|_=>none
def pK(s:Sto)(t:TypeId)(a v:AV):Option Sto:=match a with| .ptr id g off=>(match s.get id,wC P t with|some (.cells g' n c),some k=>bif Nat.beq g g'&&Nat.ble (off+k) n&&Nat.beq v.cells.length k&&v.cells.all AV.isCell then some (s.put id (.cells g' n (c.lay off v.cells)))else none|_,_=>none)|_=>none
def rX(s:Sto)(cs:List AV):Option (Nat × Sto):=bif cs.all AV.isCell then some (s.n,s.push (.cells 0 cs.length (Tr.leaf.lay 0 cs)))else none
def gV(a:Nat->Option (Nat × Nat))(cells:List AV):List (Nat × AV)->Option (List AV)|[]=>some cells|(i,v)::rest=>match a i with|none=>none|some (off,b)=>bif Nat.beq v.cells.length b&&Nat.ble (off+b) cells.length&&v.cells.all AV.isCell then gV a (cells.take off++v.cells++cells.drop (off+b)) rest else none
def fD(cs:List AV):Nat->List AV|0=>[]|n+1=>cs++fD cs n
def vD:List Field->Option (List (Nat × Nat))|[]=>some []|f::l=>match wC P f.type with|none=>none|some n=>match vD l with|none=>none|some r=>some ((f.offset,n)::r)
def tE(t:TypeId)(a:List (Nat × AV)):Option AV:=match bN P t,P.underlying t with|some z,some (.struct fields)=>(match vD P fields.toList with|some ps=>(match gV (λi=>ps[i]?) z.cells a with|some cs=>some (.agg cs)|none=>none)|none=>none)|some z,some (.array _ b)=>(match wC P b with|some k=>(match gV (λi=>some (i*k,k)) z.cells a with|some cs=>some (.agg cs)|none=>none)|none=>none)|_,_=>none
def vE(v:AV)(len:Nat):Option Nat:=match v with| .int _ (.ofNat i)=>bif Nat.blt i len then some i else none|_=>none
def gM(v:Option AV)(a b:Nat):Option Nat:=match v with|none=>some a|some (.int _ (.ofNat i))=>bif Nat.ble i b then some i else none|_=>none
def IK(len:Nat):ACap->Nat| .is c=>c| .room _=>len| .least _ c=>c
def yM(k len c:Nat):ACap:=bif Nat.beq len c then .room k else .least k c
def vF(k:Nat)(x:AV)(lo hi b:Option AV):Option AV:=match x,b with| .nils,none=>(match gM hi 0 0 with|some h=>(match gM lo 0 h with|some _=>some .nils|none=>none)|none=>none)| .nils,some m=>(match gM (some m) 0 0,hi with|some c,some h=>(match gM (some h) 0 c with|some h=>(match gM lo 0 h with|some _=>some .nils|none=>none)|none=>none)|_,_=>none)| .fz xs c,none=>(match gM hi xs.length xs.length with|some h=>(match gM lo 0 h with|some l=>bif xs.all (λv=>Nat.beq v.cells.length k)then some (.fz (aS xs l (h-l)) (c&&Nat.beq h xs.length))else none|none=>none)|none=>none)| .fz xs _,some m=>(match gM (some m) 0 xs.length,hi with|some a,some h=>(match gM (some h) 0 a with|some h=>(match gM lo 0 h with|some l=>bif xs.all (λv=>Nat.beq v.cells.length k)then some (.fz (aS xs l (h-l)) (Nat.beq h a))else none|none=>none)|none=>none)|_,_=>none)| .sl id g off len (.is c),none=>(match gM hi len c with|some h=>(match gM lo 0 h with|some l=>some (bif Nat.beq c l then .sl id g off (h-l) (.is (c-l))else .sl id g (off+l*k) (h-l) (.is (c-l)))|none=>none)|none=>none)| .sl id g off len (.room r),none=>(match gM hi len len with|some h=>(match gM lo 0 h with|some l=>bif Nat.beq k r then(bif Nat.blt l len then some (.sl id g (off+l*k) (h-l) (yM r (h-l) (len-l)))else some (.fz [] false))else none|none=>none)|none=>none)| .sl id g off len (.least r c),none=>(match gM hi len c with|some h=>(match gM lo 0 h with|some l=>bif Nat.beq k r then(bif Nat.blt l c then some (.sl id g (off+l*k) (h-l) (yM r (h-l) (c-l)))else none)else none|none=>none)|none=>none)| .sl id g off len c,some m=>(match gM (some m) 0 (IK len c),hi with|some a,some h=>(match gM (some h) 0 a with|some h=>(match gM lo 0 h with|some l=>some (bif Nat.beq a l then .sl id g off (h-l) (.is (a-l))else .sl id g (off+l*k) (h-l) (.is (a-l)))|none=>none)|none=>none)|_,_=>none)|_,_=>none
def iR(t:TypeId)(x:AV)(lo hi a:Option AV):Option AV:=match P.underlying t with|some .string=>(match x,a with| .str s,none=>(match gM hi s.length s.length with|some h=>(match gM lo 0 h with|some l=>some (.str (aS s l (h-l)))|none=>none)|none=>none)|_,_=>none)|some (.slice e)=>(match wC P e with|some k=>vF k x lo hi a|none=>none)|some (.array n e)=>(match x,a,wC P e with| .ptr id g off,none,some k=>(match gM hi n n with|some h=>(match gM lo 0 h with|some l=>some (bif Nat.beq n l then .sl id g off (h-l) (.is (n-l))else .sl id g (off+l*k) (h-l) (.is (n-l)))|none=>none)|none=>none)|_,_,_=>none)|_=>none
def zU(t:TypeId)(cs:List AV)(off:Nat):Option AV:=match nU P t cs off with|some v=>(match HN P t with|some true=>some (.pf v)|_=>bif v.isCell then some (.pf v)else none)|none=>none
def cM(t:TypeId)(a:AV)(f:Nat):Option AV:=match P.underlying t with|some (.struct fields)=>(match fields[f]? with|some b=>(match wC P b.type,a with|some (_+1),.ptr id g off=>some (.ptr id g (off+b.offset))|some (_+1),.pf (.agg cs)=>zU P b.type cs b.offset|_,_=>none)|none=>none)|_=>none
def tF(t:TypeId)(x:AV)(f:Nat):Option AV:=match P.underlying t,x with|some (.struct fields),.agg cs=>(match fields[f]? with|some a=>nU P a.type cs a.offset|none=>none)|_,_=>none
def cN(t:TypeId)(x i:AV):Option AV:=match P.underlying t,x with|some (.array len e),.ptr id g off=>(match vE i len,wC P e with|some i,some k=>some (.ptr id g (off+i*k))|_,_=>none)|some (.array len e),.pf (.agg cs)=>(match vE i len,wC P e with|some i,some k=>zU P e cs (i*k)|_,_=>none)|some (.slice e),.sl id g off len _=>(match vE i len,wC P e with|some i,some k=>some (.ptr id g (off+i*k))|_,_=>none)|some (.slice e),.fz xs _=>(match vE i xs.length,wC P e with|some i,some k=>(match xs[i]? with|some v=>bif Nat.beq v.cells.length k then some (.pf v)else none|none=>none)|_,_=>none)|_,_=>none
def vG(t:TypeId)(x i:AV):Option AV:=match P.underlying t,x with|some (.array len e),.agg cs=>(match vE i len,wC P e with|some i,some k=>nU P e cs (i*k)|_,_=>none)|some .string,.str s=>(match vE i s.length with|some i=>(match s[i]? with|some b=>some (.int .u8 (.ofNat b))|none=>none)|none=>none)|_,_=>none
def aeqs(f:TypeId->AV->AV->Option Bool)(xs a:List AV):List (TypeId × Nat)->Option Bool|[]=>some true|(t,off)::rest=>match nU P t xs off,nU P t a off with|some x,some y=>(match f t x y with|some true=>aeqs f xs a rest|some false=>some false|none=>none)|_,_=>none
def aDj(fields:Array Field):List (TypeId × Nat):=(fields.toList.filter λf=>f.name != "_").map λf=>(f.type,f.offset)
def uA(e k:Nat):(n i:Nat)->List (TypeId × Nat)|0,_=>[]|n+1,i=>(e,i*k)::uA e k n (i+1)
def aSo:Option TypeDesc->AV->AV->Option Bool|some (.slice _),.nils,.fz _ _|some (.slice _),.fz _ _,.nils=>some false|_,_,_=>none
def PI:Nat->TypeId->AV->AV->Option Bool|0,_,_,_=>none|d+1,t,x,y=>match P.underlying t,x,y with|some .bool,.bool a,.bool b=>some (a==b)|some (.int _),.int k a,.int f b=>bif decide (k=f)then some (pJ a b)else none|some .string,.str a,.str b=>some (iQ Nat.beq a b)|some (.pointer _),.nilp,.nilp=>some true|some (.pointer _),.nilp,.ptr _ _ _|some (.pointer _),.ptr _ _ _,.nilp=>some false|some (.pointer _),.nilp,.pf _|some (.pointer _),.pf _,.nilp=>some false|some (.slice _),.nils,.nils=>some true|some (.slice _),.nils,.sl _ _ _ _ _|some (.slice _),.sl _ _ _ _ _,.nils=>some false|some (.map _ _),.nilm,.nilm=>some true|some (.map _ _),.nilm,.map _|some (.map _ _),.map _,.nilm=>some false|some (.func _ _ _),.nilf,.nilf=>some true|some (.func _ _ _),.nilf,.func _ _ _|some (.func _ _ _),.func _ _ _,.nilf=>some false|some (.interface _),.nili,.nili=>some true|some (.interface _),.nili,.iface _ _|some (.interface _),.iface _ _,.nili=>some false|some (.struct fields),.agg xs,.agg c=>bif P.stoodInHeld t then none else aeqs P (PI d) xs c (aDj fields)|some (.array n e),.agg xs,.agg c=>(match wC P e with|some k=>aeqs P (PI d) xs c (uA e k n 0)|none=>none)|u,x,y=>aSo u x y
def rN(op:BinOp)(t:TypeId)(x y:Operand)(a b:AV):Bool:=match op,a,b with| .eql,.nili,.nili| .neq,.nili,.nili=>(match x with| .const _=>true|_=>false)||(match y with| .const _=>true|_=>false)| .eql,.agg _,.agg _| .neq,.agg _,.agg _=>!P.eqGuardType P.depth t|_,_,_=>true
def pZ:List Nat->List Nat->Bool|_,[]=>false|[],_::_=>true|a::x,b::y=>Nat.blt a b||(Nat.beq a b&&pZ x y)
def FQ(op:BinOp)(x y:List Nat):Option AV:=match op with| .add=>bif Nat.blt (x.length+y.length) 9223372036854775808 then some (.str (x++y))else none| .eql=>some (.bool (iQ Nat.beq x y))| .neq=>some (.bool (!iQ Nat.beq x y))| .lss=>some (.bool (pZ x y))| .leq=>some (.bool (pZ x y||iQ Nat.beq x y))| .gtr=>some (.bool (!(pZ x y||iQ Nat.beq x y)))| .geq=>some (.bool (!pZ x y))|_=>none
def TJ{α:Type}(n:Int)(k:Int->α):α:=match n with| .ofNat m=>(match m with|0=>k (.ofNat 0)|j+1=>k (.ofNat (j+1)))| .negSucc m=>(match m with|0=>k (.negSucc 0)|j+1=>k (.negSucc (j+1)))
def pP(k:IntKind)(n:Int):Option AV:=TJ n λm=>some (.int k m)
def a1t{α:Type}(b:Bool)(k:Bool->α):α:=match b with|true=>k true|false=>k false
def BV(b:Bool):Option AV:=a1t b λb=>some (.bool b)
def nH(op:BinOp)(k:IntKind)(a b:Int):Option AV:=match op with| .add=>pP k (k.wrap (a+b))| .sub=>pP k (k.wrap (a-b))| .mul=>pP k (k.wrap (a*b))| .quo=>bif decide (b=0)then none else pP k (k.wrap (a.tdiv b))| .rem=>bif decide (b=0)then none else pP k (a.tmod b)| .and=>pP k (k.wrap (BitVec.ofInt k.bits a &&& BitVec.ofInt k.bits b).toNat)| .or=>pP k (k.wrap (BitVec.ofInt k.bits a ||| BitVec.ofInt k.bits b).toNat)| .xor=>pP k (k.wrap (BitVec.ofInt k.bits a ^^^ BitVec.ofInt k.bits b).toNat)| .andNot=>pP k (k.wrap (BitVec.ofInt k.bits a &&& ~~~BitVec.ofInt k.bits b).toNat)| .eql=>BV (pJ a b)| .neq=>BV (!pJ a b)| .lss=>BV (decide (a<b))| .leq=>BV (decide (a<=b))| .gtr=>BV (decide (b<a))| .geq=>BV (decide (b<=a))|_=>none
def dC(op:BinOp)(t:TypeId)(x y:Operand)(a b:AV):Option AV:=match op,a,b with| .shl,.int k a,.int _ b=>bif decide (b<0)then none else pP k (k.wrap (a*2 ^ (min b.toNat k.bits)))| .shr,.int k a,.int _ b=>bif decide (b<0)then none else pP k (a.fdiv (2 ^ (min b.toNat k.bits)))|op,.int k a,.int c b=>bif decide (k=c)then nH op k a b else none|op,.str a,.str b=>FQ op a b| .eql,a,b=>bif rN P .eql t x y a b then(match PI P 10000 t a b with|some r=>some (.bool r)|none=>none)else none| .neq,a,b=>bif rN P .neq t x y a b then(match PI P 10000 t a b with|some r=>some (.bool (!r))|none=>none)else none|_,_,_=>none
def aun(op:UnOp)(a:AV):Option AV:=match op,a with| .neg,.int k n=>pP k (k.wrap (0-n))| .xor,.int k n=>pP k (k.wrap (BitVec.ofInt k.bits (if k.signed then -1 else k.max) ^^^ BitVec.ofInt k.bits n).toNat)| .not,.bool b=>some (.bool (!b))|_,_=>none
def ofBytes:List AV->Option (List Nat)|[]=>some []| .int .u8 n::l=>(match ofBytes l with|some r=>some ((n.toNat%256)::r)|none=>none)|_::_=>none
def iS(s:List Nat):List AV:=s.map λb=>AV.int .u8 (.ofNat b)
def fE(s:Sto)(k n:Nat):AV->Option (List AV)| .sl id g off len _=>bif Nat.ble n len then match s.get id with|some (.cells g' m c)=>bif Nat.beq g g'&&Nat.ble (off+n*k) m then c.row off (n*k)else none|_=>none else none| .nils=>bif Nat.beq n 0 then some []else none| .fz xs _=>bif Nat.ble n xs.length then(let l:=(xs.take n).flatMap AV.cells;bif (xs.take n).all (λx=>Nat.beq x.cells.length k)&&l.all AV.isCell then some l else none)else none| .str b=>bif Nat.ble n b.length&&Nat.beq k 1 then some (iS (b.take n))else none|_=>none
def rY:AV->Option Nat| .sl _ _ _ len _=>some len| .nils=>some 0| .fz xs _=>some xs.length| .str s=>some s.length|_=>none
def mD(s:Sto)(a dst:TypeId)(x:AV):Option ORes:=match P.underlying a,P.underlying dst,x with|some _,some (.int k),.int _ n=>(match pP k (k.wrap n)with|some v=>some (.val v)|none=>none)|some _,some .string,.str b=>some (.val (.str b))|some _,some (.slice e),.str b=>(match P.underlying e with|some (.int .u8)=>(match rX s (iS b)with|some (id,s')=>some (.val' (.sl id 0 0 b.length (.room 1)) s')|none=>none)|_=>none)|some (.slice e),some .string,x=>(match P.underlying e,rY x with|some (.int .u8),some n=>(match fE s 1 n x with|some l=>(match ofBytes l with|some b=>some (.val (.str b))|none=>none)|none=>none)|_,_=>none)|_,_,_=>none
def gW(n by_:Nat):Bool:=Nat.ble ((2*n+1024)*by_) (2 ^ 48)&&Nat.blt n (2 ^ 62)
def kP(s:Sto)(k by_:Nat)(old new:List AV)(len:Nat):Option ORes:=bif gW len by_ then match rX s (old++new)with|some (id,s')=>some (.val' (.sl id 0 0 len (.room k)) s')|none=>none else none
def DW(s:Sto)(t:TypeId)(x y:AV):Option ORes:=match P.underlying t with|some (.slice e)=>(match wC P e,rM P e,bN P e,rY y with|some k,some by_,some z,some n=>(match fE s k n y with|none=>none|some new=>bif Nat.beq z.cells.length k&&new.all AV.isCell then match x with| .nils=>bif Nat.beq n 0 then some (.val .nils)else kP s k by_ [] new n| .fz xs true=>(bif Nat.beq n 0 then some (.val x)else match fE s k xs.length x with|some old=>kP s k by_ old new (xs.length+n)|none=>none)| .sl id g off len (.is c)=>(bif Nat.ble (len+n) c then match s.get id with|some (.cells g' m cs)=>bif Nat.beq g g'&&Nat.ble (off+c*k) m then some (.val' (.sl id g off (len+n) (.is c)) (s.put id (.cells g' m (cs.lay (off+len*k) new))))else none|_=>none else match fE s k len x with|some old=>kP s k by_ old new (len+n)|none=>none)| .sl id g off len (.room r)=>(match s.get id with|some (.cells g' m cs)=>bif Nat.beq g g'&&Nat.beq k r&&Nat.beq (off+len*k) m&&gW (len+n) by_ then bif Nat.beq off 0 then some (.val' (.sl id (g'+1) 0 (len+n) (.room k)) (s.put id (.cells (g'+1) (m+n*k) (cs.lay m new))))else match cs.row off (len*k)with|some old=>some (.val' (.sl id (g'+1) 0 (len+n) (.room k)) (s.put id (.cells (g'+1) ((len+n)*k) (Tr.leaf.lay 0 (old++new)))))|none=>none else none|_=>none)| .sl id g off len (.least r c)=>bif Nat.ble (len+n) c then match s.get id with|some (.cells g' m cs)=>bif Nat.beq g g'&&Nat.beq k r&&Nat.ble (off+c*k) m then some (.val' (.sl id g off (len+n) (yM k (len+n) c)) (s.put id (.cells g' m (cs.lay (off+len*k) new))))else none|_=>none else none|_=>none else none)|_,_,_,_=>none)|_=>none
def LV(s:Sto)(t:TypeId):AV->AV->Option ORes| .nils,.int .i64 (.ofNat n)=>(match P.underlying t with|some (.slice e)=>(match wC P e,rM P e,bN P e with|some k,some by_,some z=>bif Nat.blt 0 n&&(Nat.beq z.cells.length k&&Nat.blt 0 k)then kP s k by_ [] (fD z.cells n) n else none|_,_,_=>none)|_=>none)|_,_=>none
def aDk(s:Sto)(t:TypeId):AV->Option ORes| .nils=>(match P.underlying t with|some (.slice _)=>some (.val (.tuple []))|_=>none)| .fz [] _=>(match P.underlying t with|some (.slice _)=>some (.val (.tuple []))|_=>none)| .sl _ _ _ 0 _=>(match P.underlying t with|some (.slice _)=>some (.val (.tuple []))|_=>none)| .sl id g off (len+1) _=>(match P.underlying t with|some (.slice e)=>(match wC P e,bN P e,s.get id with|some k,some z,some (.cells g' m cs)=>bif Nat.beq g g'&&(Nat.beq z.cells.length k&&(Nat.blt 0 k&&Nat.ble (off+(len+1)*k) m))then some (.val' (.tuple []) (s.put id (.cells g' m (cs.lay off (fD z.cells (len+1))))))else none|_,_,_=>none)|_=>none)|_=>none
def YF(s:Sto)(t:TypeId)(x y:AV):Option ORes:=match P.underlying t with|some (.slice e)=>(match wC P e,rY x,rY y with|some k,some a,some b=>(match fE s k (Nat.min b a) y with|none=>none|some new=>match x with| .nils=>some (.val (.int .i64 (.ofNat 0)))| .sl id g off _ _=>(match s.get id with|some (.cells g' m cs)=>bif Nat.beq g g'&&Nat.ble (off+Nat.min b a*k) m&&new.all AV.isCell then some (.val' (.int .i64 (.ofNat (Nat.min b a))) (s.put id (.cells g' m (cs.lay off new))))else none|_=>none)|_=>none)|_,_,_=>none)|_=>none
def pB(k:TypeDesc)(v:AV):Bool:=match k,v with| .int _,.int _ _| .string,.str _| .bool,.bool _=>true|_,_=>false
def PJ:AV->AV->Option Bool| .int k a,.int c b=>bif decide (k=c)then some (pJ a b)else none| .str a,.str b=>some (iQ Nat.beq a b)| .bool a,.bool b=>some (a==b)|_,_=>none
def uB(k:AV):List (AV × AV × Nat)->Nat->Option (Option (Nat × AV))|[],_=>some none|(b,v,_)::a,i=>match PJ k b with|some true=>some (some (i,v))|some false=>uB k a (i+1)|none=>none
def aSp:List (AV × AV × Nat)->Nat->AV->AV->List (AV × AV × Nat)|[],_,_,_=>[]|(_,_,b)::a,0,k,v=>(k,v,b)::a|e::a,i+1,k,v=>e::aSp a i k v
def a1u:List (AV × AV × Nat)->Nat->List (AV × AV × Nat)|[],_=>[]|_::a,0=>a|e::a,i+1=>e::a1u a i
def nI(t:TypeId):Option (TypeDesc × TypeId):=match P.underlying t with|some (.map k e)=>(match P.underlying k with|some d=>some (d,e)|none=>none)|_=>none
def alookup(s:Sto)(t:TypeId)(m k:AV)(ok:Bool):Option AV:=match nI P t with|some (d,e)=>bif pB d k then match(match m with| .nilm=>some none| .map id=>(match s.get id with|some (.map a _)=>uB k a 0|_=>none)|_=>none)with|some (some (_,v))=>some (bif ok then .tuple [v,.bool true]else v)|some none=>(match bN P e with|some z=>some (bif ok then .tuple [z,.bool false]else z)|none=>none)|none=>none else none|none=>none
def gF(s:Sto)(t:TypeId)(m k v:AV):Option Sto:=match nI P t,m with|some (d,_),.map id=>bif pB d k then match s.get id with|some (.map b a)=>(match uB k b 0 with|some (some (i,_))=>some (s.put id (.map (aSp b i k v) a))|some none=>some (s.put id (.map (b++[(k,v,a)]) (a+1)))|none=>none)|_=>none else none|_,_=>none
def TK(s:Sto)(t:TypeId)(m k:AV):Option Sto:=match nI P t,m with|some (d,_),.nilm=>bif pB d k then some s else none|some (d,_),.map id=>bif pB d k then match s.get id with|some (.map b a)=>(match uB k b 0 with|some (some (i,_))=>some (s.put id (.map (a1u b i) a))|some none=>some (s.put id (.map b a))|none=>none)|_=>none else none|_,_=>none
def fS(e:Env)(xs:Array Operand):List AV:=xs.toList.map e.eval
inductive APl where
 | val (v:AV)
 | var (a:AV)
def APl.get(s:Sto)(t:TypeId):APl->Option AV| .val v=>some v| .var a=>gU P s t a
def sM(s:Sto):List FieldStep->TypeId->APl->Option (TypeId × APl)|[],t,x=>some (t,x)|st::rest,t,x=>match P.underlying st.struct with|some (.struct fields)=>(match fields[st.index]? with|some f=>(bif st.deref then match x.get P s t with|some a=>(match cM P st.struct a st.index with|some b=>sM s rest f.type (.var b)|none=>none)|none=>none else match x with| .var a=>(match cM P st.struct a st.index with|some b=>sM s rest f.type (.var b)|none=>none)| .val (.agg cs)=>(match nU P f.type cs f.offset with|some v=>sM s rest f.type (.val v)|none=>none)| .val _=>none)|none=>none)|_=>none
def aZh:AV->Bool| .ptr _ _ _| .pf _=>true|_=>false
def zV(s:Sto)(d:TypeId)(x:APl)(b:Bool):Option AV:=match P.underlying d,b,x with|some (.pointer _),true,x=>x.get P s d|some (.pointer c),false,x=>(match x.get P s d with|some a=>gU P s c a|none=>none)|some _,true,.var a=>bif aZh a then some a else none|some _,true,.val _=>none|some _,false,x=>x.get P s d|none,_,_=>none
def zW(s:Sto)(t:TypeId)(v:AV)(b:String):Option (FuncId × AV):=match P.info? t with|some i=>(match i.methods.find? (·.name==b)with|some m=>(match sM P s m.path.toList t (.val v),m.func with|some (c,x),some (f,a)=>(match zV P s c x a with|some r=>some (f,r)|none=>none)|_,_=>none)|none=>none)|none=>none
inductive ATgt where
 | fn (f:FuncId) (args:List AV)
 | round (l:Nat) (args:List AV)
def kF(s:Sto)(d:AV)(args:List AV):Option ATgt:=match d with| .func (.func f) first cap=>some (.fn f (first++args++cap))| .func (.yield l) first _=>some (.round l (first++args))| .func (.method a) first _=>(match first++args with| .iface t v::rest=>(match zW P s t v a with|some (f,r)=>some (.fn f (r::rest))|none=>none)|_=>none)| .func (.methodOf t a) first _=>(match P.underlying t,first++args with|some (.interface _),.iface e v::rest=>(match zW P s e v a with|some (f,r)=>some (.fn f (r::rest))|none=>none)|some (.interface _),_=>none|some _,v::rest=>(match zW P s t v a with|some (f,r)=>some (.fn f (r::rest))|none=>none)|_,_=>none)| .func (.via t c f b) first _=>(match first++args with|x::rest=>(match sM P s c.toList t (.val x)with|some (h,x)=>(match zV P s h x b with|some r=>some (.fn f (r::rest))|none=>none)|none=>none)|[]=>none)|_=>none
def iT(s:Sto):Option (CRes × ARec)->Option ORes|some (.ret v none,_)=>some (.val v)|some (.ret v (some s'),_)=>some (.val' v s')|some (.pan v none,_)=>some (.pan v s)|some (.pan v (some s'),_)=>some (.pan v s')|none=>none
def valO:Option AV->Option ORes|some v=>some (.val v)|none=>none
def skipO:Option Sto->Option ORes|some s=>some (.val' .undef s)|none=>none
def vH(d:Bool):AV->List AV->Option AV|a,[]=>some a| .int k a,.int e b::rest=>bif decide (k=e)then(TJ (bif d then(if b > a then b else a)else(if b<a then b else a)) λc=>vH d (.int k c) rest)else none|_,_::_=>none
def pC(b:Bool):List AV->Option AV|[]=>none|a::l=>vH b a l
def uC(a:Array (String × TypeId))(b:Array Method):Bool:=(Instr.missingMethod a b).isSome
def abuiltin(s:Sto)(b:Builtin)(ts:Array TypeId)(l:List AV):Option ORes:=match b with| .len=>(match(match ts[0]? with|some t=>P.underlying t|none=>none),l with|some .string,[.str s]=>some (.val (.int .i64 (.ofNat s.length)))|some (.slice _),[.str _]=>none|some (.slice _),[x]=>(match rY x with|some n=>some (.val (.int .i64 (.ofNat n)))|none=>none)|some (.array n _),[_]=>some (.val (.int .i64 (.ofNat n)))|some (.map _ _),[.nilm]=>some (.val (.int .i64 0))|some (.map _ _),[.map id]=>(match s.get id with|some (.map a _)=>some (.val (.int .i64 (.ofNat a.length)))|_=>none)|_,_=>none)| .append=>(match ts.toList,l with|[t,u],[x,y]=>(match P.underlying u with|some (.int _)=>LV P s t x y|some _=>DW P s t x y|none=>none)|_,_=>none)| .copy=>(match ts[0]?,l with|some t,[x,y]=>YF P s t x y|_,_=>none)| .delete=>(match ts[0]?,l with|some t,[m,k]=>(match TK P s t m k with|some s=>some (.val' (.tuple []) s)|none=>none)|_,_=>none)| .min=>valO (pC false l)| .max=>valO (pC true l)| .recover=>some .recov| .panic=>(match l with|[.iface t v]=>some (.pan (.iface t v) s)|_=>none)| .cap=>(match(match ts[0]? with|some t=>P.underlying t|none=>none),l with|some (.slice _),[.nils]=>some (.val (.int .i64 0))|some (.slice _),[.sl _ _ _ _ (.is c)]=>some (.val (.int .i64 (.ofNat c)))|some (.slice _),[.fz xs true]=>some (.val (.int .i64 (.ofNat xs.length)))|_,_=>none)| .clear=>(match ts[0]?,l with|some t,[x]=>aDk P s t x|_,_=>none)|_=>none
def rO(b:List Nat):ByteArray:=⟨(b.map UInt8.ofNat).toArray⟩
def anext(s:Sto)(c:AV)(str:Bool):Option ORes:=bif str then(match c with| .ptr id 0 0=>(match s.get id with|some (.siter b a)=>bif Nat.blt a b.length then some (.val' (.tuple [.bool true,.int .i64 (.ofNat a),.int .i32 (.ofNat (Utf8.decode (rO b) a).1)]) (s.put id (.siter b (a+(Utf8.decode (rO b) a).2))))else some (.val (.tuple [.bool false]))|_=>none)|_=>none)else none
def kS(call:cE)(o:Oper)(e:Env):Option ORes:=match o.op with| .move x| .assign x=>some (.val (e.eval x))| .pick c a b=>(match e.eval c with| .bool true=>some (.val (e.eval a))| .bool false=>some (.val (e.eval b))|_=>none)| .alloc t=>(match bN P t with|some z=>(match rX e.s z.cells with|some (id,s)=>some (.val' (.ptr id 0 0) s)|none=>none)|none=>none)| .box _ x=>(match e.eval x with| .top=>none|v=>match rX e.s v.cells with|some (id,s)=>some (.val' (.ptr id 0 0) s)|none=>none)| .build t q=>valO (tE P t (q.toList.map λp=>(p.1,e.eval p.2)))| .buildSlice t len q=>(match P.underlying t with|some (.slice u)=>(match wC P u with|some k=>bif Nat.ble (len*k) (2 ^ 24)then match(bif Nat.beq (len*k) 0 then some []else match bN P u with|some z=>some (fD z.cells len)|none=>none)with|some D=>bif Nat.beq D.length (len*k)then match gV (λi=>some (i*k,k)) D (q.toList.map λp=>(p.1,e.eval p.2))with|some cs=>(match rX e.s cs with|some (id,s)=>some (.val' (.sl id 0 0 len (.is len)) s)|none=>none)|none=>none else none|none=>none else none|none=>none)|_=>none)| .load t a=>valO (gU P e.s t (e.eval a))| .store t a x=>skipO (pK P e.s t (e.eval a) (e.eval x))| .nilCheck x=>(match e.eval x with| .ptr i g o=>some (.val (.ptr i g o))| .pf v=>some (.val (.pf v))| .func (.func f) a c=>some (.val (.func (.func f) a c))| .iface t v=>some (.val (.iface t v))|_=>none)| .binOp op t x y _=>valO (dC P op t x y (e.eval x) (e.eval y))| .unOp op _ x=>valO (aun op (e.eval x))| .convert C dst x=>mD P e.s C dst (e.eval x)| .sliceToArrayPointer arr x=>(match P.underlying arr,e.eval x with|some (.array n _),.sl id g off len _=>bif Nat.ble n len then some (.val (.ptr id g off))else none|_,_=>none)| .makeInterface t x=>(match P.underlying t with|some (.interface _)=>none|some _=>some (.val (.iface t (e.eval x)))|none=>none)| .makeFunc fn first cap=>(match fn with| .yield _=>none|fn=>some (.val (.func fn (fS e first) (fS e cap))))| .makeMap t r=>(match(match r with|none=>some true|some h=>match P.underlying t,e.eval h with|some (.map _ _),.int _ _=>some true|_,_=>none)with|some _=>some (.val' (.map e.s.n) (e.s.push (.map [] 0)))|none=>none)| .makeSlice t l c=>(match P.underlying t,e.eval l,e.eval c with|some (.slice u),.int _ (.ofNat l),.int _ (.ofNat c)=>(match wC P u,rM P u,bN P u with|some k,some by_,some z=>bif Nat.ble l c&&Nat.ble (by_*c) (2 ^ 47)&&Nat.ble c (2 ^ 62)&&Nat.beq z.cells.length k then match rX e.s (fD z.cells c)with|some (id,s)=>some (.val' (.sl id 0 0 l (.is c)) s)|none=>none else none|_,_,_=>none)|_,_,_=>none)| .slice t x lo hi F=>valO (iR P t (e.eval x) (lo.map e.eval) (hi.map e.eval) (F.map e.eval))| .fieldAddr t x f=>valO (cM P t (e.eval x) f)| .field t x f=>valO (tF P t (e.eval x) f)| .indexAddr t x i=>valO (cN P t (e.eval x) (e.eval i))| .index t x i=>valO (vG P t (e.eval x) (e.eval i))| .lookup t m k ok=>valO (alookup P e.s t (e.eval m) (e.eval k) ok)| .mapUpdate t m k x| .insert t m k x=>skipO (gF P e.s t (e.eval m) (e.eval k) (e.eval x))| .range t x=>(match P.underlying t,e.eval x with|some .string,.str b=>some (.val' (.ptr e.s.n 0 0) (e.s.push (.siter b 0)))|_,_=>none)| .next E str=>anext e.s (e.eval E) str| .typeAssert x _ t ok=>(match P.underlying t,e.eval x with|some (.interface _),.nili=>bif ok then(match bN P t with|some z=>some (.val (.tuple [z,.bool false]))|none=>none)else none|some (.interface B),.iface d v=>(match P.info? d with|some i=>bif uC B i.methods then(bif ok then(match bN P t with|some z=>some (.val (.tuple [z,.bool false]))|none=>none)else none)else some (.val (bif ok then .tuple [.iface d v,.bool true]else .iface d v))|none=>none)|some _,.nili=>bif ok then(match bN P t with|some z=>some (.val (.tuple [z,.bool false]))|none=>none)else none|some _,.iface d v=>bif Nat.beq d t then some (.val (bif ok then .tuple [v,.bool true]else v))else bif ok then(match bN P t with|some z=>some (.val (.tuple [z,.bool false]))|none=>none)else none|_,_=>none)| .extract x i=>(match e.eval x with| .tuple vs=>valO vs[i]?|_=>none)| .call c=>(match c.callee with| .builtin b=>abuiltin P e.s b c.argTypes (fS e c.args)| .value f=>iT e.s (call (e.eval f) (fS e c.args) e.s .no)| .invoke A w=>iT e.s (call (.func (.method w) [e.eval A] []) (fS e c.args) e.s .no))| .defer c=>(match c.callee,e.ro with| .value f,none=>(match e.eval f with| .func fn a b=>some (.defer (.call (.func fn a b) (fS e c.args)))|_=>none)|_,_=>none)| .panic x=>(match e.eval x with| .iface t v=>some (.pan (.iface t v) e.s)|_=>none)|_=>none
end ops
def AV.under(n:Nat):Nat->AV->Bool|0,_=>false|d+1,v=>match v with| .top| .bool _| .int _ _| .str _| .nilp| .nils| .nilm| .nilf| .nili=>true| .ptr i _ _| .sl i _ _ _ _| .map i=>Nat.blt i n| .pf v| .iface _ v=>v.under n d| .fz l _| .agg l| .tuple l=>l.all (AV.under n d)| .func f a c=>(match f with| .yield l=>Nat.blt l n|_=>true)&&a.all (AV.under n d)&&c.all (AV.under n d)
def dQ(ops:List Oper)(o:Oper)(e:Env):Option Bool:=match o.guard with|none=>some true|some (j,a)=>match(match ops[j]? with|some g=>g.dst|none=>none)with|none=>some false|some d=>match e.t.get d with|some (.bool b)=>some (b==a)|some (.tuple _)=>some false|_=>none
def kQ(P:Program)(call:cE)(ops:List Oper):List Oper->Env->Option (Ex × Env)|[],e=>some (.normal,e)|o::rest,e=>match dQ ops o e with|none=>none|some false=>(match e.put o.dst .undef with|some e'=>kQ P call ops rest e'|none=>none)|some true=>match kS P call o e with|none=>none|some (.val v)=>(match e.put o.dst v with|some e'=>kQ P call ops rest e'|none=>none)|some (.val' v s)=>(match(e.setS s).put o.dst v with|some e'=>kQ P call ops rest e'|none=>none)|some (.pan v s)=>some (.panic v,{e with s:=s})|some (.defer d)=>(match(e.setDs (d::e.ds)).put o.dst .undef with|some e'=>kQ P call ops rest e'|none=>none)|some .recov=>match e.ro,e.r with|none,.pan v=>(match(e.setR (.recd v)).put o.dst v with|some e'=>kQ P call ops rest e'|none=>none)|none,_=>(match e.put o.dst .nili with|some e'=>kQ P call ops rest e'|none=>none)|some _,_=>none
def YG(acc:List Nat)(o:Oper):Nat:=o.after.toList.foldl (λm e=>bif Region.binds .any e then m ||| (2 ^ e.on ||| acc.getD e.on 0)else m) 0
def vI:List Oper->List Nat->List Nat|[],acc=>acc|o::rest,acc=>vI rest (acc++[YG acc o])
def dG(ops:List Oper):List Nat:=vI ops []
def pL(ops:List Oper)(o:Oper):List Nat:=o.dst.toList++(o.op.operands.toList.filterMap λ| .tmp t=>some t|_=>none)++(match o.guard with|some (j,_)=>(match ops[j]? with|some g=>g.dst.toList|none=>[])|none=>[])
def FR(o:Oper)(l:List Nat):Bool:=match o.dst with|some d=>l.elem d|none=>false
def aDl(ops:List Oper)(as:List Nat)(i:Nat)(a:Oper)(j:Nat)(b:Oper):Bool:=!(FR a (pL ops b)||FR b (pL ops a))||(as.getD j 0).testBit i
def IL(ops:List Oper)(as:List Nat):List Oper->Nat->Bool|[],_=>true|o::rest,i=>((rest.zipIdx (i+1)).all λp=>aDl ops as i o p.2 p.1)&&IL ops as rest (i+1)
def aGq(ops:List Oper):Bool:=ops.zipIdx.all λp=>p.1.after.toList.all λe=>!Region.binds .any e||Nat.blt e.on p.2
def aSq(ops:List Oper):Bool:=ops.all λo=>match o.op with| .select ..=>false|_=>true
def rP(ops:List Oper):Bool:=aSq ops&&aGq ops&&IL ops (dG ops) ops 0
def iU:Op->Bool| .move _| .assign _| .pick _ _ _| .build _ _| .nilCheck _| .binOp _ _ _ _ _| .unOp _ _ _| .sliceToArrayPointer _ _| .makeInterface _ _| .makeFunc _ _ _| .slice _ _ _ _ _| .fieldAddr _ _ _| .field _ _ _| .indexAddr _ _ _| .index _ _ _| .typeAssert _ _ _ _| .extract _ _=>true|_=>false
def eD:Op->Bool| .alloc _| .box _ _| .buildSlice _ _ _| .makeMap _ _| .makeSlice _ _ _=>true|_=>false
structure TrE where
 i:Nat
 o:Oper
 e:Env
 v:AV
 run:Bool
 chg:Bool
def TrE.isNew(x:TrE):Bool:=x.chg&&eD x.o.op
def TrE.isChg(x:TrE):Bool:=x.chg && !eD x.o.op
abbrev TrR:=List TrE × Env × Option (AV × Sto)
def tG(x:TrE):Option TrR->Option TrR|some (l,f,p)=>some (x::l,f,p)|none=>none
def IM(P:Program)(call:cE)(ops:List Oper):List Oper->Nat->Env->Option TrR|[],_,e=>some ([],e,none)|o::rest,i,e=>match dQ ops o e with|none=>none|some false=>(match e.put o.dst .undef with|some e'=>tG {i,o,e,v:=.undef,run:=false,chg:=false} (IM P call ops rest (i+1) e')|none=>none)|some true=>match kS P call o e with|some (.val v)=>(match e.put o.dst v with|some e'=>tG {i,o,e,v,run:=true,chg:=false} (IM P call ops rest (i+1) e')|none=>none)|some (.val' v s)=>(match(e.setS s).put o.dst v with|some e'=>tG {i,o,e,v,run:=true,chg:=true} (IM P call ops rest (i+1) e')|none=>none)|some (.pan v s)=>some ([{i,o,e,v,run:=true,chg:=true}],{e with s:=s},some (v,s))|_=>none
def dD:List TrE->List Sto|[]=>[]|x::l=>bif x.isChg then x.e.s::dD l else dD l
def eX(l:List TrE):List Nat:=(l.filter TrE.isChg).map (·.i)
def oK(l:List TrE):List (Nat × Nat):=(l.filter TrE.isNew).map λx=>(x.i,x.e.s.n)
def iV(as:List Nat):List Nat->Bool|[]=>true|[_]=>true|c::d::rest=>(as.getD d 0).testBit c&&iV as (d::rest)
def yN(as:List Nat)(ns:List (Nat × Nat))(cs:List Nat):Bool:=cs.all λc=>ns.all λn=>Nat.blt c n.1||(as.getD c 0).testBit n.1
def isVal(v:AV):Option ORes->Bool|some (.val w)=>AV.beq 10000 v w|_=>false
def qA(as:List Nat)(i:Nat):List (Nat × Nat)->Sto->Sto|[],s=>s|n::ns,s=>bif (as.getD i 0).testBit n.1 then qA as i ns s else qA as i ns {s with o:=s.o.del n.2}
def lL(P:Program)(call:cE)(n:Nat)(as:List Nat)(ns:List (Nat × Nat))(x:TrE):List Nat->List Sto->Bool|[],[s]=>isVal x.v (kS P call x.o {x.e with s:={qA as x.i ns s with n:=n}})|c::cs,s::a=>(bif (as.getD x.i 0).testBit c then true else isVal x.v (kS P call x.o {x.e with s:={qA as x.i ns s with n:=n}}))&&(bif (as.getD c 0).testBit x.i then true else lL P call n as ns x cs a)|_,_=>false
def keptY(n0:Nat)(as:List Nat)(ns:List (Nat × Nat))(i id:Nat):Prop:=id<n0∨∃k,(k,id)∈ns/\(as.getD i 0).testBit k=true
def aDm(P:Program)(call:cE)(Y:Nat->Prop)(x:TrE):Prop:=∀s':Sto,(∀id,Y id->s'.get id=x.e.s.get id)->kS P call x.o {x.e with s:=s'}= some (.val x.v)
def sN(P:Program)(call:cE)(as:List Nat)(n0:Nat)(ns:List (Nat × Nat))(cs:List Nat)(x:TrE):Bool:=(cs.all λc=>(as.getD x.i 0).testBit c||(as.getD c 0).testBit x.i)&&@decide (aDm P call (keptY n0 as ns x.i) x) (Classical.propDecidable _)
def aDn(Y:Nat->Prop)(s a:Sto):Prop:=∀id,Y id->s.get id=a.get id
def FS(as:List Nat)(i:Nat)(m:Nat->Prop)(a:Sto):List Nat->List Sto->Prop|[],b=>∀s∈b,aDn m s a|c::cs,s::b=>aDn m s a/\((∀d∈c::cs,(as.getD d 0).testBit i=true)∨FS as i m a cs b)|_::_,[]=>False
def vJ(P:Program)(call:cE)(as:List Nat)(n0:Nat)(cs:List Nat)(a:List Sto)(x:TrE):Bool:=@decide (∃Y:Nat->Prop,(∀id,Y id->id<n0)/\FS as x.i Y x.e.s cs a/\aDm P call Y x) (Classical.propDecidable _)
def a1w(as:List Nat)(ns:List (Nat × Nat))(cs:List Nat)(x:TrE):Bool:=(cs.all λc=>(as.getD x.i 0).testBit c||(as.getD c 0).testBit x.i)&&ns.all λn=>(as.getD x.i 0).testBit n.1||(as.getD n.1 0).testBit x.i
def oS(P:Program)(call:cE)(n n0:Nat)(as:List Nat)(ns:List (Nat × Nat))(cs:List Nat)(a:List Sto):List TrE->Bool|[]=>true|x::l=>(x.chg || !x.run||iU x.o.op||a1w as ns cs x||lL P call n as ns x cs a||sN P call as n0 ns cs x||vJ P call as n0 cs a x)&&oS P call n n0 as ns cs a l
def gX(P:Program)(call:cE)(n n0:Nat)(as:List Nat)(l:List TrE)(a:Sto):Bool:=match eX l,oK l with|[],[]=>true|_,_=>oS P call n n0 as (oK l) (eX l) (dD l++[a]) l
def unb(n:Nat)(v:AV):Bool:=v.under n 100 ||@decide (∃d,v.under n d=true) (Classical.propDecidable _)
def mE(l:List TrE):Bool:=l.all λx=>!x.chg||(x.o.op.operands.toList.all λy=>unb x.e.s.n (x.e.eval y))
def kR:List TrE->Nat->Bool|[],_=>true|[x],n=>Nat.ble x.e.s.n n|x::y::l,n=>Nat.ble x.e.s.n y.e.s.n&&kR (y::l) n
def gY(e:Env):List Oper->Env|[]=>e|o::rest=>match o.dst with|some d=>gY {e with t:=e.t.del d} rest|none=>gY e rest
def nJ(as:List Nat)(c:Nat):List Oper->Nat->Bool|[],_=>true|_::rest,i=>(!Nat.blt c i||(as.getD i 0).testBit c)&&nJ as c rest (i+1)
def DX(P:Program)(call:cE)(ops:List Oper)(e:Env):Option (Ex × Env):=match IM P call ops ops 0 e with|none=>none|some (l,f,p)=>let as:=dG ops;let cs:=eX l;let ns:=oK l;bif P.follows .mixedOrders&&rP ops&&iV as cs&&yN as ns cs&&kR l f.s.n&&mE l&&gX P call f.s.n e.s.n as l f.s then match p with|none=>some (.normal,f)|some (v,s)=>bif nJ as (l.length-1) ops 0 then some (.panic v,gY {e with s:=s} ops)else none else none
def sP(P:Program)(call:cE)(ops:List Oper)(a:Bool)(e:Env):Option (Ex × Env):=bif a then DX P call ops e else kQ P call ops ops e
def loopGo(f:Env->Option (Ex × Env)):Nat->Env->Option (Ex × Env)|0,_=>none|n+1,e=>match f e with|some (.normal,e')=>loopGo f n e'|r=>r
def eA(e:Env)(ds:List ADef)(f:Nat)(s:Sto):Option (Ex × Env):=match s.get f with|some (.loop st c fn nt t ps a b d)=>(match st with| .busy=>none|_=>let e':Env:={e with s:=s.put f (.loop .exhausted c fn nt t ps a b d),ds:=ds};match c with|none=>some (.normal,e')|some .ret=>some (.ret,e')|some (.exit id)=>some (.exit id,e')|some _=>none)|_=>none
def BW(call:cE)(f:Operand)(b:Array Tmp)(a c:Code)(e:Env):Option (Ex × Env):=match(match e.ro with|none=>some (e.s.push (.defs (some [])),e.s.n,ADef.collected e.s.n::e.ds)|some l=>match e.s.get l with|some (.loop _ _ _ _ _ _ _ _ d)=>some (e.s,d,e.ds)|_=>none)with|none=>none|some (h,d,ds)=>let k:=h.push (.loop .ready none e.fn e.nt e.t b.toList a c d);match call (e.eval f) [.func (.yield h.n) [] []] k .no with|some (.ret _ m,_)=>eA e ds h.n (match m with|some s=>s|none=>k)|some (.pan v m,_)=>some (.panic v,{e with s:=(match m with|some s=>s|none=>k),ds:=ds})|none=>none
def bM(P:Program)(call:cE)(n:Nat):Code->Env->Option (Ex × Env)| .skip,e=>some (.normal,e)| .label _,e=>some (.normal,e)| .region _ ops d,e=>sP P call ops.toList d e| .seq a b,e=>(match bM P call n a e with|some (.normal,e')=>bM P call n b e'|r=>r)| .cond c x y,e=>(match e.eval c with| .bool true=>bM P call n x e| .bool false=>bM P call n y e|_=>none)| .block id c,e=>(match bM P call n c e with|some (.exit i,e')=>bif Nat.beq i id then some (.normal,e')else some (.exit i,e')|r=>r)| .loop c,e=>loopGo (bM P call n c) n e| .scope c,e=>(match bM P call n c e with|some (.goto _,_)=>none|r=>r)| .exit id,e=>some (.exit id,e)| .ret,e=>some (.ret,e)| .rangeFunc f ps a b,e=>BW call f ps a b e| .goto _,_=>none| .refuse _,_=>none
def bA(P:Program)(e:Env):List ResultVar->Option (List AV)|[]=>some []| .tmp t::l=>(match bA P e l with|some r=>some ((match e.t.get t with|some v=>v|none=>.top)::r)|none=>none)| .cell a t::l=>match gU P e.s t (match e.t.get a with|some v=>v|none=>.top)with|some v=>(match bA P e l with|some r=>some (v::r)|none=>none)|none=>none
def TL(n:Nat):ARec->Bool| .no=>true| .pan v| .recd v=>v.under n 100
def gG(s:Sto)(v:AV)(e:Env):Option Sto:=bif Nat.ble s.n e.s.low&&(v.under s.n 100&&TL s.n e.r)then none else some {e.s with low:=Nat.min s.low e.s.low}
def vL:AV->Bool| .func (.yield _) _ _=>true|_=>false
inductive LRes where
 | ret (v:AV)
 | pan (v:AV)
def dleave(P:Program)(call:cE)(fn:Func):Nat->Option AV->Env->Option (LRes × Env)|0,_,_=>none|m+1,a,e=>match e.ds with|[]=>(match a with|none=>(match bA P e fn.results.toList with|some [v]=>some (.ret v,e)|some l=>some (.ret (.tuple l),e)|none=>none)|some v=>some (.pan v,e))| .collected id::ds=>(match e.s.get id with|some (.defs (some l))=>dleave P call fn m a {e with ds:=l++ds,s:=e.s.put id (.defs none)}|_=>none)| .call c args::ds=>bif vL c then none else match a with|none=>(match call c args e.s .no with|some (.ret _ b,.no)=>dleave P call fn m none {e with ds:=ds,s:=(match b with|some s=>s|none=>e.s)}|some (.pan v b,.no)=>dleave P call fn m (some v) {e with ds:=ds,s:=(match b with|some s=>s|none=>e.s)}|_=>none)|some p=>match call c args e.s (.pan p)with|some (.ret _ b,.recd _)=>dleave P call fn m none {e with ds:=ds,s:=(match b with|some s=>s|none=>e.s)}|some (.ret _ b,.pan d)=>dleave P call fn m (some d) {e with ds:=ds,s:=(match b with|some s=>s|none=>e.s)}|_=>none
def FT(s:Sto):Option (LRes × Env)->Option (CRes × ARec)|some (.ret v,e)=>some (.ret v (gG s v e),e.r)|some (.pan v,e)=>some (.pan v (gG s v e),e.r)|none=>none
def okFn(P:Program)(f:FuncId):Bool:=match P.funcs[f]? with|some fn=>fn.name != "runtime.NumGoroutine" && fn.body.isSome|none=>false
def uD(P:Program)(call:cE)(n:Nat)(f:FuncId)(args:List AV)(s:Sto)(r:ARec):Option (CRes × ARec):=bif okFn P f then match P.funcs[f]? with|some fn=>(match fn.body with|some c=>(match bM P call n c {nt:=Nat.max args.length fn.ntmps,ro:=none,fn:=f,t:=Tr.leaf.lay 0 args,ds:=[],s:={s with low:=s.n},r:=r}with|some (.normal,e)=>FT s (dleave P call fn n none e)|some (.ret,e)=>FT s (dleave P call fn n none e)|some (.panic v,e)=>FT s (dleave P call fn n (some v) e)|_=>none)|none=>none)|none=>none else none
def AT(nt:Nat):Tr AV->List Nat->List AV->Option (Tr AV)|t,p::ps,a::as=>bif Nat.blt p nt then AT nt (t.set p a) ps as else none|t,[],[]=>some t|_,_,_=>none
def fK(s:Sto)(l:Nat)(c:Option Code)(e:Env):Option (CRes × ARec):=match e.s.get l,e.ds with|some (.loop _ _ fn nt t ps a b d),[]=>some (.ret (.bool c.isNone) (some {e.s.put l (.loop (bif c.isNone then .ready else .done) c fn nt t ps a b d)with low:=Nat.min s.low (e.s.put l (.loop .ready none fn nt t ps a b d)).low}),.no)|_,_=>none
def pM(P:Program)(call:cE)(n:Nat)(l:Nat)(args:List AV)(s:Sto):Option (CRes × ARec):=match s.get l with|some (.loop st o fn nt t ps a b d)=>(match AT nt t ps args with|some u=>(match bM P call n a {nt:=nt,ro:=some l,fn:=fn,t:=u,ds:=[],s:={s with low:=s.n},r:=.no}with|some (.normal,e)=>(match e.s.get l with|some (.loop .ready c f h m k p b' q)=>(match bM P call n b {e with s:=e.s.put l (.loop .busy c f h m k p b' q)}with|some (.normal,e)=>fK s l none e|some (.ret,e)=>fK s l (some .ret) e|some (.exit id,e)=>fK s l (some (.exit id)) e|some (.panic v,e)=>(match e.ds with|[]=>bif okFn P e.fn then some (.pan v (some {e.s with low:=Nat.min s.low e.s.low}),.no)else none|_=>none)|_=>none)|_=>none)|_=>none)|none=>none)|_=>none
abbrev bW:=FuncId->List AV->Sto->Option CRes
def FU(O:bW)(a:AV)(args:List AV)(s:Sto)(r:ARec):Option CRes:=match r with| .no=>(match a with| .func (.func g) first cap=>O g (first++args++cap) s|_=>none)|_=>none
def aU(P:Program)(O:bW):Nat->cE|0=>λ_ _ _ _=>none|n+1=>λa args s r=>match FU O a args s r with|some res=>some (res,.no)|none=>match kF P s a args with|some (.fn f args)=>uD P (aU P O n) n f args s r|some (.round l args)=>(match r with| .no=>pM P (aU P O n) n l args s|_=>none)|none=>none
abbrev TW:=List (FuncId × List AV × AV)
def tab:TW->bW|[],_,_,_=>none|x::T,f,args,s=>bif Nat.beq x.1 f&&iQ (AV.beq 1000) x.2.1 args then some (.ret x.2.2 none)else tab T f args s
def Sto.empty:Sto:={n:=0,low:=0,o:=.leaf}
def a4w(P:Program)(O:bW)(n:Nat)(f:FuncId)(args:List AV):Option (CRes × ARec):=uD P (aU P O n) n f args .empty .no
def a4x(P:Program)(O:bW)(n:Nat)(f:FuncId)(args:List AV)(v:AV):Bool:=args.all (AV.under 0 100)&&match a4w P O n f args with|some (.ret w none,.no)=>AV.beq 1000 v w|_=>false
