/-.-/
import Derived.AtR
import Derived.Orders
set_option linter.unusedVariables false
namespace Go
theorem iu{p:Prop}(h:p:=by omega):p:=h
theorem iw{p:Prop}(h:p:=by simp):p:=h
theorem iz{p:Prop}(h:p:=by decide):p:=h
theorem h3{p:Prop}(h:p:=by assumption):p:=h
end Go
theorem _root_.Go.i9{p:Prop}(h:p:=by split<;>omega):p:=h
namespace Go.Abs
noncomputable section
inductive Tr (α:Type) where
 | leaf
 | node (v:Option α) (l r:Tr α)
def Tr.get{α:Type}(t:Tr α):Nat->Option α:=@Tr.rec α (λ_=>Nat->Option α) (λ_=>none) (λv _ _ a b i=>@Bool.rec (λ_=>Option α) (@Bool.rec (λ_=>Option α) (b (Nat.sub (Nat.div i 2) 1)) (a (Nat.div i 2)) (Nat.beq (Nat.mod i 2) 1)) v (Nat.beq i 0)) t
def hr{α:Type}(f:Nat):Tr α->Nat->Option α->Tr α:=@Nat.rec (λ_=>Tr α->Nat->Option α->Tr α) (λt _ _=>t) (λ_ b t i a=>@Tr.rec α (λ_=>Tr α) (@Bool.rec (λ_=>Tr α) (@Bool.rec (λ_=>Tr α) (.node none .leaf (b .leaf (Nat.sub (Nat.div i 2) 1) a)) (.node none (b .leaf (Nat.div i 2) a) .leaf) (Nat.beq (Nat.mod i 2) 1)) (.node a .leaf .leaf) (Nat.beq i 0)) (λv l r _ _=>@Bool.rec (λ_=>Tr α) (@Bool.rec (λ_=>Tr α) (.node v l (b r (Nat.sub (Nat.div i 2) 1) a)) (.node v (b l (Nat.div i 2) a) r) (Nat.beq (Nat.mod i 2) 1)) (.node a l r) (Nat.beq i 0)) t) f
def Tr.set{α:Type}(t:Tr α)(i:Nat)(a:α):Tr α:=hr (i+1) t i (some a)
def Tr.del{α:Type}(t:Tr α)(i:Nat):Tr α:=hr (i+1) t i none
def Tr.lay{α:Type}:Tr α->Nat->List α->Tr α|t,_,[]=>t|t,i,a::l=>Tr.lay (t.set i a) (i+1) l
def Tr.row{α:Type}(t:Tr α):(i n:Nat)->Option (List α)|_,0=>some []|i,n+1=>match t.get i with|none=>none|some a=>match t.row (i+1) n with|none=>none|some l=>some (a::l)
inductive ACap where
 | is (c:Nat)
 | room (k:Nat)
 | least (k c:Nat)
inductive AV where
 | top
 | bool (b:Bool)
 | int (k:IntKind) (n:Int)
 | str (s:List Nat)
 | nilp
 | ptr (id gen off:Nat)
 | pf (v:AV)
 | nils
 | sl (id gen off len:Nat) (cap:ACap)
 | fz (l:List AV) (clip:Bool)
 | nilm
 | map (id:Nat)
 | func (fn:Fn) (first captured:List AV)
 | nilf
 | iface (t:TypeId) (v:AV)
 | nili
 | agg (cs:List AV)
 | tuple (vs:List AV)
def AV.undef:AV:=.tuple []
def AV.cells:AV->List AV| .agg cs=>cs|v=>[v]
def AV.isCell:AV->Bool| .top| .agg _| .tuple _=>false|_=>true
inductive ADef where
 | call (fv:AV) (args:List AV)
 | collected (id:Nat)
inductive AObj where
 | cells (gen n:Nat) (c:Tr AV)
 | map (es:List (AV × AV × Nat)) (clock:Nat)
 | siter (s:List Nat) (pos:Nat)
 | loop (state:LoopState) (pending:Option Code) (fn:FuncId) (nt:Nat) (t:Tr AV) (params:List Nat) (assign body:Code) (defers:Nat)
 | defs (ds:Option (List ADef))
structure Sto where
 n:Nat
 low:Nat
 o:Tr AObj
def Sto.get(s:Sto)(i:Nat):Option AObj:=bif Nat.blt i s.n then s.o.get i else none
def Sto.push(s:Sto)(x:AObj):Sto:={n:=s.n+1,low:=s.low,o:=s.o.set s.n x}
def Sto.put(s:Sto)(i:Nat)(x:AObj):Sto:={n:=s.n,low:=bif Nat.blt i s.low then i else s.low,o:=s.o.set i x}
inductive ARec where
 | no
 | pan (v:AV)
 | recd (v:AV)
structure Env where
 nt:Nat
 ro:Option Nat
 fn:FuncId
 t:Tr AV
 ds:List ADef
 s:Sto
 r:ARec
inductive Ex where
 | normal
 | exit (id:Nat)
 | goto (l:Nat)
 | ret
 | panic (v:AV)
inductive CRes where
 | ret (v:AV) (s:Option Sto)
 | pan (v:AV) (s:Option Sto)
abbrev cP:=AV->List AV->Sto->ARec->Option (CRes × ARec)
inductive ORes where
 | val (v:AV)
 | val' (v:AV) (s:Sto)
 | pan (v:AV) (s:Sto)
 | defer (d:ADef)
 | recov
def aPi:List Value->Option (List AV)|[]=>some []|v::l=>match(match v with| .bool b=>some (AV.bool b)| .int k n=>some (AV.int k n)| .string s=>some (AV.str (s.data.toList.map (·.toNat)))| .pointer none=>some AV.nilp| .slice none 0 0=>some AV.nils| .map none=>some AV.nilm| .nilFunc=>some AV.nilf| .nilIface=>some AV.nili|_=>none)with|none=>none|some a=>match aPi l with|none=>none|some r=>some (a::r)
def RQ:Value->AV| .agg cs=>(match aPi cs.toList with|some l=>.agg l|none=>.top)|v=>match aPi [v]with|some [a]=>a|_=>.top
def Env.eval(e:Env):Operand->AV| .tmp t=>(match e.t.get t with|some v=>v|none=>.top)| .const v=>RQ v| .global _=>.top| .func f=>.func (.func f) [] []
def Env.put(e:Env)(dst:Option Tmp)(v:AV):Option Env:=match dst with|none=>some e|some d=>match e with|⟨nt,ro,fn,t,ds,s,r⟩=>bif Nat.blt d nt then some ⟨nt,ro,fn,t.set d v,ds,s,r⟩else none
def Env.setS(e:Env)(a:Sto):Env:=match e with|⟨nt,ro,fn,t,ds,_,r⟩=>⟨nt,ro,fn,t,ds,a,r⟩
def Env.setDs(e:Env)(a:List ADef):Env:=match e with|⟨nt,ro,fn,t,_,s,r⟩=>⟨nt,ro,fn,t,a,s,r⟩
def Env.setR(e:Env)(a:ARec):Env:=match e with|⟨nt,ro,fn,t,ds,s,_⟩=>⟨nt,ro,fn,t,ds,s,a⟩
section types
variable (P:Program)
def xF(t:TypeId):Option Nat:=(P.info? t).map (·.size)
def rV(t:TypeId):Option Nat:=(P.info? t).map (·.bytes)
def NO:TypeDesc->Bool| .struct _| .array _ _=>true|_=>false
def IS(t:TypeId):Option Bool:=(P.underlying t).map NO
def bI(t:TypeId):Option AV:=match(P.info? t).bind (·.zero)with|some v=>(match RQ v with| .top=>none|a=>some a)|none=>none
end types
def fV{α:Type}(f:α->α->Bool):List α->List α->Bool|[],[]=>true|a::l,b::m=>f a b&&fV f l m|_,_=>false
def lO:Int->Int->Bool| .ofNat a,.ofNat b=>Nat.beq a b| .negSucc a,.negSucc b=>Nat.beq a b|_,_=>false
def aGm:ACap->ACap->Bool| .is a,.is b=>Nat.beq a b| .room a,.room b=>Nat.beq a b| .least a c,.least b d=>Nat.beq a b&&Nat.beq c d|_,_=>false
def a5n(a b:Fn):Bool:=decide (a=b)
def AV.beq:Nat->AV->AV->Bool|0,_,_=>false|d+1,a,b=>match a,b with| .bool a,.bool b=>a==b| .int j a,.int k b=>decide (j=k)&&lO a b| .str a,.str b=>fV Nat.beq a b| .nilp,.nilp| .nils,.nils| .nilm,.nilm| .nilf,.nilf| .nili,.nili=>true| .ptr i g o,.ptr p g' o'=>Nat.beq i p&&Nat.beq g g'&&Nat.beq o o'| .pf v,.pf w=>AV.beq d v w| .sl i g o n c,.sl p g' o' q h=>Nat.beq i p&&Nat.beq g g'&&Nat.beq o o'&&Nat.beq n q&&aGm c h| .fz l c,.fz m h=>fV (AV.beq d) l m&&(c==h)| .map i,.map j=>Nat.beq i j| .func f a c,.func g b e=>a5n f g&&fV (AV.beq d) a b&&fV (AV.beq d) c e| .iface t v,.iface u w=>Nat.beq t u&&AV.beq d v w| .agg a,.agg b=>fV (AV.beq d) a b| .tuple a,.tuple b=>fV (AV.beq d) a b|_,_=>false
section ops
variable (P:Program)
def aQ{α:Type}(l:List α)(i n:Nat):List α:=(l.drop i).take n
def nO(t:TypeId)(cs:List AV)(off:Nat):Option AV:=match IS P t,xF P t with|some true,some n=>bif Nat.ble (off+n) cs.length then some (.agg (aQ cs off n))else none|some false,_=>cs[off]?|_,_=>none
def gV(s:Sto)(t:TypeId):AV->Option AV| .ptr id g off=>(match s.get id with|some (.cells g' n c)=>bif Nat.beq g g' then match IS P t,xF P t with|some true,some k=>bif Nat.ble (off+k) n then(match c.row off k with|some l=>some (.agg l)|none=>none)else none|some false,_=>bif Nat.blt off n then c.get off else none|_,_=>none else none|_=>none)| .pf v=>(match IS P t,xF P t,v with|some true,some k,.agg cs=>bif Nat.beq cs.length k then some v else none|some false,_,v=>bif v.isCell then some v else none|_,_,_=>none)|_=>none
def pM(s:Sto)(t:TypeId)(a v:AV):Option Sto:=match a with| .ptr id g off=>(match s.get id,xF P t with|some (.cells g' n c),some k=>bif Nat.beq g g'&&Nat.ble (off+k) n&&Nat.beq v.cells.length k&&v.cells.all AV.isCell then some (s.put id (.cells g' n (c.lay off v.cells)))else none|_,_=>none)|_=>none
def sG(s:Sto)(cs:List AV):Option (Nat × Sto):=bif cs.all AV.isCell then some (s.n,s.push (.cells 0 cs.length (Tr.leaf.lay 0 cs)))else none
def gW(a:Nat->Option (Nat × Nat))(cells:List AV):List (Nat × AV)->Option (List AV)|[]=>some cells|(i,v)::rest=>match a i with|none=>none|some (off,b)=>bif Nat.beq v.cells.length b&&Nat.ble (off+b) cells.length&&v.cells.all AV.isCell then gW a (cells.take off++v.cells++cells.drop (off+b)) rest else none
def fN(cs:List AV):Nat->List AV|0=>[]|n+1=>cs++fN cs n
def vP:List Field->Option (List (Nat × Nat))|[]=>some []|f::l=>match xF P f.type with|none=>none|some n=>match vP l with|none=>none|some r=>some ((f.offset,n)::r)
def tI(t:TypeId)(a:List (Nat × AV)):Option AV:=match bI P t,P.underlying t with|some z,some (.struct fields)=>(match vP P fields.toList with|some ps=>(match gW (λi=>ps[i]?) z.cells a with|some cs=>some (.agg cs)|none=>none)|none=>none)|some z,some (.array _ b)=>(match xF P b with|some k=>(match gW (λi=>some (i*k,k)) z.cells a with|some cs=>some (.agg cs)|none=>none)|none=>none)|_,_=>none
def vQ(v:AV)(len:Nat):Option Nat:=match v with| .int _ (.ofNat i)=>bif Nat.blt i len then some i else none|_=>none
def gH(v:Option AV)(a b:Nat):Option Nat:=match v with|none=>some a|some (.int _ (.ofNat i))=>bif Nat.ble i b then some i else none|_=>none
def JW(len:Nat):ACap->Nat| .is c=>c| .room _=>len| .least _ c=>c
def yU(k len c:Nat):ACap:=bif Nat.beq len c then .room k else .least k c
def qH(k:Nat)(x:AV)(b a e:Option AV):Option AV:=match x,e with| .nils,none=>(match gH a 0 0 with|some h=>(match gH b 0 h with|some _=>some .nils|none=>none)|none=>none)| .nils,some m=>(match gH (some m) 0 0,a with|some c,some h=>(match gH (some h) 0 c with|some h=>(match gH b 0 h with|some _=>some .nils|none=>none)|none=>none)|_,_=>none)| .fz xs c,none=>(match gH a xs.length xs.length with|some h=>(match gH b 0 h with|some l=>bif xs.all (λv=>Nat.beq v.cells.length k)then some (.fz (aQ xs l (h-l)) (c&&Nat.beq h xs.length))else none|none=>none)|none=>none)| .fz xs _,some m=>(match gH (some m) 0 xs.length,a with|some d,some h=>(match gH (some h) 0 d with|some h=>(match gH b 0 h with|some l=>bif xs.all (λv=>Nat.beq v.cells.length k)then some (.fz (aQ xs l (h-l)) (Nat.beq h d))else none|none=>none)|none=>none)|_,_=>none)| .sl id g off len (.is c),none=>(match gH a len c with|some h=>(match gH b 0 h with|some l=>some (bif Nat.beq c l then .sl id g off (h-l) (.is (c-l))else .sl id g (off+l*k) (h-l) (.is (c-l)))|none=>none)|none=>none)| .sl id g off len (.room r),none=>(match gH a len len with|some h=>(match gH b 0 h with|some l=>bif Nat.beq k r then(bif Nat.blt l len then some (.sl id g (off+l*k) (h-l) (yU r (h-l) (len-l)))else some (.fz [] false))else none|none=>none)|none=>none)| .sl id g off len (.least r c),none=>(match gH a len c with|some h=>(match gH b 0 h with|some l=>bif Nat.beq k r then(bif Nat.blt l c then some (.sl id g (off+l*k) (h-l) (yU r (h-l) (c-l)))else none)else none|none=>none)|none=>none)| .sl id g off len c,some m=>(match gH (some m) 0 (JW len c),a with|some d,some h=>(match gH (some h) 0 d with|some h=>(match gH b 0 h with|some l=>some (bif Nat.beq d l then .sl id g off (h-l) (.is (d-l))else .sl id g (off+l*k) (h-l) (.is (d-l)))|none=>none)|none=>none)|_,_=>none)|_,_=>none
def gI(t:TypeId)(x:AV)(b a c:Option AV):Option AV:=match P.underlying t with|some .string=>(match x,c with| .str s,none=>(match gH a s.length s.length with|some h=>(match gH b 0 h with|some l=>some (.str (aQ s l (h-l)))|none=>none)|none=>none)|_,_=>none)|some (.slice e)=>(match xF P e with|some k=>qH k x b a c|none=>none)|some (.array n e)=>(match x,c,xF P e with| .ptr id g off,none,some k=>(match gH a n n with|some h=>(match gH b 0 h with|some l=>some (bif Nat.beq n l then .sl id g off (h-l) (.is (n-l))else .sl id g (off+l*k) (h-l) (.is (n-l)))|none=>none)|none=>none)|_,_,_=>none)|_=>none
def AF(t:TypeId)(cs:List AV)(off:Nat):Option AV:=match nO P t cs off with|some v=>(match IS P t with|some true=>some (.pf v)|_=>bif v.isCell then some (.pf v)else none)|none=>none
def cS(t:TypeId)(a:AV)(f:Nat):Option AV:=match P.underlying t with|some (.struct fields)=>(match fields[f]? with|some b=>(match xF P b.type,a with|some (_+1),.ptr id g off=>some (.ptr id g (off+b.offset))|some (_+1),.pf (.agg cs)=>AF P b.type cs b.offset|_,_=>none)|none=>none)|_=>none
def tJ(t:TypeId)(x:AV)(f:Nat):Option AV:=match P.underlying t,x with|some (.struct fields),.agg cs=>(match fields[f]? with|some a=>nO P a.type cs a.offset|none=>none)|_,_=>none
def cM(t:TypeId)(x i:AV):Option AV:=match P.underlying t,x with|some (.array len e),.ptr id g off=>(match vQ i len,xF P e with|some i,some k=>some (.ptr id g (off+i*k))|_,_=>none)|some (.array len e),.pf (.agg cs)=>(match vQ i len,xF P e with|some i,some k=>AF P e cs (i*k)|_,_=>none)|some (.slice e),.sl id g off len _=>(match vQ i len,xF P e with|some i,some k=>some (.ptr id g (off+i*k))|_,_=>none)|some (.slice e),.fz xs _=>(match vQ i xs.length,xF P e with|some i,some k=>(match xs[i]? with|some v=>bif Nat.beq v.cells.length k then some (.pf v)else none|none=>none)|_,_=>none)|_,_=>none
def vR(t:TypeId)(x i:AV):Option AV:=match P.underlying t,x with|some (.array len e),.agg cs=>(match vQ i len,xF P e with|some i,some k=>nO P e cs (i*k)|_,_=>none)|some .string,.str s=>(match vQ i s.length with|some i=>(match s[i]? with|some b=>some (.int .u8 (.ofNat b))|none=>none)|none=>none)|_,_=>none
def aeqs(f:TypeId->AV->AV->Option Bool)(xs a:List AV):List (TypeId × Nat)->Option Bool|[]=>some true|(t,off)::rest=>match nO P t xs off,nO P t a off with|some x,some y=>(match f t x y with|some true=>aeqs f xs a rest|some false=>some false|none=>none)|_,_=>none
def aGn(fields:Array Field):List (TypeId × Nat):=(fields.toList.filter λf=>f.name != "_").map λf=>(f.type,f.offset)
def oD(e k:Nat):(n i:Nat)->List (TypeId × Nat)|0,_=>[]|n+1,i=>(e,i*k)::oD e k n (i+1)
def aXf:Option TypeDesc->AV->AV->Option Bool|some (.slice _),.nils,.fz _ _|some (.slice _),.fz _ _,.nils=>some false|_,_,_=>none
def IT:Nat->TypeId->AV->AV->Option Bool|0,_,_,_=>none|d+1,t,x,y=>match P.underlying t,x,y with|some .bool,.bool a,.bool b=>some (a==b)|some (.int _),.int k a,.int f b=>bif decide (k=f)then some (lO a b)else none|some .string,.str a,.str b=>some (fV Nat.beq a b)|some (.pointer _),.nilp,.nilp=>some true|some (.pointer _),.nilp,.ptr _ _ _|some (.pointer _),.ptr _ _ _,.nilp=>some false|some (.pointer _),.nilp,.pf _|some (.pointer _),.pf _,.nilp=>some false|some (.slice _),.nils,.nils=>some true|some (.slice _),.nils,.sl _ _ _ _ _|some (.slice _),.sl _ _ _ _ _,.nils=>some false|some (.map _ _),.nilm,.nilm=>some true|some (.map _ _),.nilm,.map _|some (.map _ _),.map _,.nilm=>some false|some (.func _ _ _),.nilf,.nilf=>some true|some (.func _ _ _),.nilf,.func _ _ _|some (.func _ _ _),.func _ _ _,.nilf=>some false|some (.interface _),.nili,.nili=>some true|some (.interface _),.nili,.iface _ _|some (.interface _),.iface _ _,.nili=>some false|some (.struct fields),.agg xs,.agg c=>bif P.stoodInHeld t then none else aeqs P (IT d) xs c (aGn fields)|some (.array n e),.agg xs,.agg c=>(match xF P e with|some k=>aeqs P (IT d) xs c (oD e k n 0)|none=>none)|u,x,y=>aXf u x y
def pN(op:BinOp)(t:TypeId)(x y:Operand)(a b:AV):Bool:=match op,a,b with| .eql,.nili,.nili| .neq,.nili,.nili=>(match x with| .const _=>true|_=>false)||(match y with| .const _=>true|_=>false)| .eql,.agg _,.agg _| .neq,.agg _,.agg _=>!P.eqGuardType P.depth t|_,_,_=>true
def qI:List Nat->List Nat->Bool|_,[]=>false|[],_::_=>true|a::x,b::y=>Nat.blt a b||(Nat.beq a b&&qI x y)
def GL(op:BinOp)(x y:List Nat):Option AV:=match op with| .add=>bif Nat.blt (x.length+y.length) 9223372036854775808 then some (.str (x++y))else none| .eql=>some (.bool (fV Nat.beq x y))| .neq=>some (.bool (!fV Nat.beq x y))| .lss=>some (.bool (qI x y))| .leq=>some (.bool (qI x y||fV Nat.beq x y))| .gtr=>some (.bool (!(qI x y||fV Nat.beq x y)))| .geq=>some (.bool (!qI x y))|_=>none
def WC{α:Type}(n:Int)(k:Int->α):α:=match n with| .ofNat m=>(match m with|0=>k (.ofNat 0)|j+1=>k (.ofNat (j+1)))| .negSucc m=>(match m with|0=>k (.negSucc 0)|j+1=>k (.negSucc (j+1)))
def pX(k:IntKind)(n:Int):Option AV:=WC n λm=>some (.int k m)
def a8l{α:Type}(b:Bool)(k:Bool->α):α:=match b with|true=>k true|false=>k false
def BX(b:Bool):Option AV:=a8l b λb=>some (.bool b)
def kL(op:BinOp)(k:IntKind)(a b:Int):Option AV:=match op with| .add=>pX k (k.wrap (a+b))| .sub=>pX k (k.wrap (a-b))| .mul=>pX k (k.wrap (a*b))| .quo=>bif decide (b=0)then none else pX k (k.wrap (a.tdiv b))| .rem=>bif decide (b=0)then none else pX k (a.tmod b)| .and=>pX k (k.wrap (BitVec.ofInt k.bits a &&& BitVec.ofInt k.bits b).toNat)| .or=>pX k (k.wrap (BitVec.ofInt k.bits a ||| BitVec.ofInt k.bits b).toNat)| .xor=>pX k (k.wrap (BitVec.ofInt k.bits a ^^^ BitVec.ofInt k.bits b).toNat)| .andNot=>pX k (k.wrap (BitVec.ofInt k.bits a &&& ~~~BitVec.ofInt k.bits b).toNat)| .eql=>BX (lO a b)| .neq=>BX (!lO a b)| .lss=>BX (decide (a<b))| .leq=>BX (decide (a<=b))| .gtr=>BX (decide (b<a))| .geq=>BX (decide (b<=a))|_=>none
def abin(op:BinOp)(t:TypeId)(x y:Operand)(a b:AV):Option AV:=match op,a,b with| .shl,.int k a,.int _ b=>bif decide (b<0)then none else pX k (k.wrap (a*2 ^ (min b.toNat k.bits)))| .shr,.int k a,.int _ b=>bif decide (b<0)then none else pX k (a.fdiv (2 ^ (min b.toNat k.bits)))|op,.int k a,.int c b=>bif decide (k=c)then kL op k a b else none|op,.str a,.str b=>GL op a b| .eql,a,b=>bif pN P .eql t x y a b then(match IT P 10000 t a b with|some r=>some (.bool r)|none=>none)else none| .neq,a,b=>bif pN P .neq t x y a b then(match IT P 10000 t a b with|some r=>some (.bool (!r))|none=>none)else none|_,_,_=>none
def aun(op:UnOp)(a:AV):Option AV:=match op,a with| .neg,.int k n=>pX k (k.wrap (0-n))| .xor,.int k n=>pX k (k.wrap (BitVec.ofInt k.bits (if k.signed then -1 else k.max) ^^^ BitVec.ofInt k.bits n).toNat)| .not,.bool b=>some (.bool (!b))|_,_=>none
def ofBytes:List AV->Option (List Nat)|[]=>some []| .int .u8 n::l=>(match ofBytes l with|some r=>some ((n.toNat%256)::r)|none=>none)|_::_=>none
def iM(s:List Nat):List AV:=s.map λb=>AV.int .u8 (.ofNat b)
def eZ(s:Sto)(k n:Nat):AV->Option (List AV)| .sl id g off len _=>bif Nat.ble n len then match s.get id with|some (.cells g' m c)=>bif Nat.beq g g'&&Nat.ble (off+n*k) m then c.row off (n*k)else none|_=>none else none| .nils=>bif Nat.beq n 0 then some []else none| .fz xs _=>bif Nat.ble n xs.length then(let l:=(xs.take n).flatMap AV.cells;bif (xs.take n).all (λx=>Nat.beq x.cells.length k)&&l.all AV.isCell then some l else none)else none| .str b=>bif Nat.ble n b.length&&Nat.beq k 1 then some (iM (b.take n))else none|_=>none
def rW:AV->Option Nat| .sl _ _ _ len _=>some len| .nils=>some 0| .fz xs _=>some xs.length| .str s=>some s.length|_=>none
def mD(s:Sto)(a dst:TypeId)(x:AV):Option ORes:=match P.underlying a,P.underlying dst,x with|some _,some (.int k),.int _ n=>(match pX k (k.wrap n)with|some v=>some (.val v)|none=>none)|some _,some .string,.str b=>some (.val (.str b))|some _,some (.slice e),.str b=>(match P.underlying e with|some (.int .u8)=>(match sG s (iM b)with|some (id,c)=>some (.val' (.sl id 0 0 b.length (.room 1)) c)|none=>none)|_=>none)|some (.slice e),some .string,x=>(match P.underlying e,rW x with|some (.int .u8),some n=>(match eZ s 1 n x with|some l=>(match ofBytes l with|some b=>some (.val (.str b))|none=>none)|none=>none)|_,_=>none)|_,_,_=>none
def gX(n by_:Nat):Bool:=Nat.ble ((2*n+1024)*by_) (2 ^ 48)&&Nat.blt n (2 ^ 62)
def kM(s:Sto)(k by_:Nat)(old new:List AV)(len:Nat):Option ORes:=bif gX len by_ then match sG s (old++new)with|some (id,a)=>some (.val' (.sl id 0 0 len (.room k)) a)|none=>none else none
def EH(s:Sto)(t:TypeId)(x y:AV):Option ORes:=match P.underlying t with|some (.slice e)=>(match xF P e,rV P e,bI P e,rW y with|some k,some by_,some z,some n=>(match eZ s k n y with|none=>none|some new=>bif Nat.beq z.cells.length k&&new.all AV.isCell then match x with| .nils=>bif Nat.beq n 0 then some (.val .nils)else kM s k by_ [] new n| .fz xs true=>(bif Nat.beq n 0 then some (.val x)else match eZ s k xs.length x with|some old=>kM s k by_ old new (xs.length+n)|none=>none)| .sl id g off len (.is c)=>(bif Nat.ble (len+n) c then match s.get id with|some (.cells g' m cs)=>bif Nat.beq g g'&&Nat.ble (off+c*k) m then some (.val' (.sl id g off (len+n) (.is c)) (s.put id (.cells g' m (cs.lay (off+len*k) new))))else none|_=>none else match eZ s k len x with|some old=>kM s k by_ old new (len+n)|none=>none)| .sl id g off len (.room r)=>(match s.get id with|some (.cells g' m cs)=>bif Nat.beq g g'&&Nat.beq k r&&Nat.beq (off+len*k) m&&gX (len+n) by_ then bif Nat.beq off 0 then some (.val' (.sl id (g'+1) 0 (len+n) (.room k)) (s.put id (.cells (g'+1) (m+n*k) (cs.lay m new))))else match cs.row off (len*k)with|some old=>some (.val' (.sl id (g'+1) 0 (len+n) (.room k)) (s.put id (.cells (g'+1) ((len+n)*k) (Tr.leaf.lay 0 (old++new)))))|none=>none else none|_=>none)| .sl id g off len (.least r c)=>bif Nat.ble (len+n) c then match s.get id with|some (.cells g' m cs)=>bif Nat.beq g g'&&Nat.beq k r&&Nat.ble (off+c*k) m then some (.val' (.sl id g off (len+n) (yU k (len+n) c)) (s.put id (.cells g' m (cs.lay (off+len*k) new))))else none|_=>none else none|_=>none else none)|_,_,_,_=>none)|_=>none
def NP(s:Sto)(t:TypeId):AV->AV->Option ORes| .nils,.int .i64 (.ofNat n)=>(match P.underlying t with|some (.slice e)=>(match xF P e,rV P e,bI P e with|some k,some by_,some z=>bif Nat.blt 0 n&&(Nat.beq z.cells.length k&&Nat.blt 0 k)then kM s k by_ [] (fN z.cells n) n else none|_,_,_=>none)|_=>none)|_,_=>none
def aGo(s:Sto)(t:TypeId):AV->Option ORes| .nils=>(match P.underlying t with|some (.slice _)=>some (.val (.tuple []))|_=>none)| .fz [] _=>(match P.underlying t with|some (.slice _)=>some (.val (.tuple []))|_=>none)| .sl _ _ _ 0 _=>(match P.underlying t with|some (.slice _)=>some (.val (.tuple []))|_=>none)| .sl id g off (len+1) _=>(match P.underlying t with|some (.slice e)=>(match xF P e,bI P e,s.get id with|some k,some z,some (.cells g' m cs)=>bif Nat.beq g g'&&(Nat.beq z.cells.length k&&(Nat.blt 0 k&&Nat.ble (off+(len+1)*k) m))then some (.val' (.tuple []) (s.put id (.cells g' m (cs.lay off (fN z.cells (len+1))))))else none|_,_,_=>none)|_=>none)|_=>none
def NQ(s:Sto)(t:TypeId)(x y:AV):Option ORes:=match P.underlying t with|some (.slice e)=>(match xF P e,rW x,rW y with|some k,some a,some b=>(match eZ s k (Nat.min b a) y with|none=>none|some new=>match x with| .nils=>some (.val (.int .i64 (.ofNat 0)))| .sl id g off _ _=>(match s.get id with|some (.cells g' m cs)=>bif Nat.beq g g'&&Nat.ble (off+Nat.min b a*k) m&&new.all AV.isCell then some (.val' (.int .i64 (.ofNat (Nat.min b a))) (s.put id (.cells g' m (cs.lay off new))))else none|_=>none)|_=>none)|_,_,_=>none)|_=>none
def oY(k:TypeDesc)(v:AV):Bool:=match k,v with| .int _,.int _ _| .string,.str _| .bool,.bool _=>true|_,_=>false
def RR:AV->AV->Option Bool| .int k a,.int c b=>bif decide (k=c)then some (lO a b)else none| .str a,.str b=>some (fV Nat.beq a b)| .bool a,.bool b=>some (a==b)|_,_=>none
def uJ(k:AV):List (AV × AV × Nat)->Nat->Option (Option (Nat × AV))|[],_=>some none|(b,v,_)::a,i=>match RR k b with|some true=>some (some (i,v))|some false=>uJ k a (i+1)|none=>none
def aXg:List (AV × AV × Nat)->Nat->AV->AV->List (AV × AV × Nat)|[],_,_,_=>[]|(_,_,b)::a,0,k,v=>(k,v,b)::a|e::a,i+1,k,v=>e::aXg a i k v
def a8m:List (AV × AV × Nat)->Nat->List (AV × AV × Nat)|[],_=>[]|_::a,0=>a|e::a,i+1=>e::a8m a i
def mZ(t:TypeId):Option (TypeDesc × TypeId):=match P.underlying t with|some (.map k e)=>(match P.underlying k with|some d=>some (d,e)|none=>none)|_=>none
def alookup(s:Sto)(t:TypeId)(m k:AV)(ok:Bool):Option AV:=match mZ P t with|some (d,e)=>bif oY d k then match(match m with| .nilm=>some none| .map id=>(match s.get id with|some (.map a _)=>uJ k a 0|_=>none)|_=>none)with|some (some (_,v))=>some (bif ok then .tuple [v,.bool true]else v)|some none=>(match bI P e with|some z=>some (bif ok then .tuple [z,.bool false]else z)|none=>none)|none=>none else none|none=>none
def gJ(s:Sto)(t:TypeId)(m k v:AV):Option Sto:=match mZ P t,m with|some (d,_),.map id=>bif oY d k then match s.get id with|some (.map b a)=>(match uJ k b 0 with|some (some (i,_))=>some (s.put id (.map (aXg b i k v) a))|some none=>some (s.put id (.map (b++[(k,v,a)]) (a+1)))|none=>none)|_=>none else none|_,_=>none
def WD(s:Sto)(t:TypeId)(m k:AV):Option Sto:=match mZ P t,m with|some (d,_),.nilm=>bif oY d k then some s else none|some (d,_),.map id=>bif oY d k then match s.get id with|some (.map b a)=>(match uJ k b 0 with|some (some (i,_))=>some (s.put id (.map (a8m b i) a))|some none=>some (s.put id (.map b a))|none=>none)|_=>none else none|_,_=>none
def fS(e:Env)(xs:Array Operand):List AV:=xs.toList.map e.eval
inductive APl where
 | val (v:AV)
 | var (a:AV)
def APl.get(s:Sto)(t:TypeId):APl->Option AV| .val v=>some v| .var a=>gV P s t a
def sR(s:Sto):List FieldStep->TypeId->APl->Option (TypeId × APl)|[],t,x=>some (t,x)|st::rest,t,x=>match P.underlying st.struct with|some (.struct fields)=>(match fields[st.index]? with|some f=>(bif st.deref then match x.get P s t with|some a=>(match cS P st.struct a st.index with|some b=>sR s rest f.type (.var b)|none=>none)|none=>none else match x with| .var a=>(match cS P st.struct a st.index with|some b=>sR s rest f.type (.var b)|none=>none)| .val (.agg cs)=>(match nO P f.type cs f.offset with|some v=>sR s rest f.type (.val v)|none=>none)| .val _=>none)|none=>none)|_=>none
def a5o:AV->Bool| .ptr _ _ _| .pf _=>true|_=>false
def AG(s:Sto)(d:TypeId)(x:APl)(b:Bool):Option AV:=match P.underlying d,b,x with|some (.pointer _),true,x=>x.get P s d|some (.pointer c),false,x=>(match x.get P s d with|some a=>gV P s c a|none=>none)|some _,true,.var a=>bif a5o a then some a else none|some _,true,.val _=>none|some _,false,x=>x.get P s d|none,_,_=>none
def AH(s:Sto)(t:TypeId)(v:AV)(b:String):Option (FuncId × AV):=match P.info? t with|some i=>(match i.methods.find? (·.name==b)with|some m=>(match sR P s m.path.toList t (.val v),m.func with|some (c,x),some (f,a)=>(match AG P s c x a with|some r=>some (f,r)|none=>none)|_,_=>none)|none=>none)|none=>none
inductive ATgt where
 | fn (f:FuncId) (args:List AV)
 | round (l:Nat) (args:List AV)
def kB(s:Sto)(d:AV)(args:List AV):Option ATgt:=match d with| .func (.func f) first cap=>some (.fn f (first++args++cap))| .func (.yield l) first _=>some (.round l (first++args))| .func (.method a) first _=>(match first++args with| .iface t v::rest=>(match AH P s t v a with|some (f,r)=>some (.fn f (r::rest))|none=>none)|_=>none)| .func (.methodOf t a) first _=>(match P.underlying t,first++args with|some (.interface _),.iface e v::rest=>(match AH P s e v a with|some (f,r)=>some (.fn f (r::rest))|none=>none)|some (.interface _),_=>none|some _,v::rest=>(match AH P s t v a with|some (f,r)=>some (.fn f (r::rest))|none=>none)|_,_=>none)| .func (.via t c f b) first _=>(match first++args with|x::rest=>(match sR P s c.toList t (.val x)with|some (h,x)=>(match AG P s h x b with|some r=>some (.fn f (r::rest))|none=>none)|none=>none)|[]=>none)|_=>none
def iN(s:Sto):Option (CRes × ARec)->Option ORes|some (.ret v none,_)=>some (.val v)|some (.ret v (some a),_)=>some (.val' v a)|some (.pan v none,_)=>some (.pan v s)|some (.pan v (some a),_)=>some (.pan v a)|none=>none
def valO:Option AV->Option ORes|some v=>some (.val v)|none=>none
def skipO:Option Sto->Option ORes|some s=>some (.val' .undef s)|none=>none
def vS(d:Bool):AV->List AV->Option AV|a,[]=>some a| .int k a,.int e b::rest=>bif decide (k=e)then(WC (bif d then(if b > a then b else a)else(if b<a then b else a)) λc=>vS d (.int k c) rest)else none|_,_::_=>none
def oZ(b:Bool):List AV->Option AV|[]=>none|a::l=>vS b a l
def uK(a:Array (String × TypeId))(b:Array Method):Bool:=(Instr.missingMethod a b).isSome
def abuiltin(s:Sto)(b:Builtin)(a:Array TypeId)(l:List AV):Option ORes:=match b with| .len=>(match(match a[0]? with|some t=>P.underlying t|none=>none),l with|some .string,[.str s]=>some (.val (.int .i64 (.ofNat s.length)))|some (.slice _),[.str _]=>none|some (.slice _),[x]=>(match rW x with|some n=>some (.val (.int .i64 (.ofNat n)))|none=>none)|some (.array n _),[_]=>some (.val (.int .i64 (.ofNat n)))|some (.map _ _),[.nilm]=>some (.val (.int .i64 0))|some (.map _ _),[.map id]=>(match s.get id with|some (.map d _)=>some (.val (.int .i64 (.ofNat d.length)))|_=>none)|_,_=>none)| .append=>(match a.toList,l with|[t,u],[x,y]=>(match P.underlying u with|some (.int _)=>NP P s t x y|some _=>EH P s t x y|none=>none)|_,_=>none)| .copy=>(match a[0]?,l with|some t,[x,y]=>NQ P s t x y|_,_=>none)| .delete=>(match a[0]?,l with|some t,[m,k]=>(match WD P s t m k with|some s=>some (.val' (.tuple []) s)|none=>none)|_,_=>none)| .min=>valO (oZ false l)| .max=>valO (oZ true l)| .recover=>some .recov| .panic=>(match l with|[.iface t v]=>some (.pan (.iface t v) s)|_=>none)| .cap=>(match(match a[0]? with|some t=>P.underlying t|none=>none),l with|some (.slice _),[.nils]=>some (.val (.int .i64 0))|some (.slice _),[.sl _ _ _ _ (.is c)]=>some (.val (.int .i64 (.ofNat c)))|some (.slice _),[.fz xs true]=>some (.val (.int .i64 (.ofNat xs.length)))|_,_=>none)| .clear=>(match a[0]?,l with|some t,[x]=>aGo P s t x|_,_=>none)|_=>none
def rX(b:List Nat):ByteArray:=⟨(b.map UInt8.ofNat).toArray⟩
def anext(s:Sto)(c:AV)(str:Bool):Option ORes:=bif str then(match c with| .ptr id 0 0=>(match s.get id with|some (.siter b a)=>bif Nat.blt a b.length then some (.val' (.tuple [.bool true,.int .i64 (.ofNat a),.int .i32 (.ofNat (Utf8.decode (rX b) a).1)]) (s.put id (.siter b (a+(Utf8.decode (rX b) a).2))))else some (.val (.tuple [.bool false]))|_=>none)|_=>none)else none
def kR(call:cP)(o:Oper)(e:Env):Option ORes:=match o.op with| .move x| .assign x=>some (.val (e.eval x))| .pick c a b=>(match e.eval c with| .bool true=>some (.val (e.eval a))| .bool false=>some (.val (e.eval b))|_=>none)| .alloc t=>(match bI P t with|some z=>(match sG e.s z.cells with|some (id,s)=>some (.val' (.ptr id 0 0) s)|none=>none)|none=>none)| .box _ x=>(match e.eval x with| .top=>none|v=>match sG e.s v.cells with|some (id,s)=>some (.val' (.ptr id 0 0) s)|none=>none)| .build t q=>valO (tI P t (q.toList.map λp=>(p.1,e.eval p.2)))| .buildSlice t len q=>(match P.underlying t with|some (.slice u)=>(match xF P u with|some k=>bif Nat.ble (len*k) (2 ^ 24)then match(bif Nat.beq (len*k) 0 then some []else match bI P u with|some z=>some (fN z.cells len)|none=>none)with|some D=>bif Nat.beq D.length (len*k)then match gW (λi=>some (i*k,k)) D (q.toList.map λp=>(p.1,e.eval p.2))with|some cs=>(match sG e.s cs with|some (id,s)=>some (.val' (.sl id 0 0 len (.is len)) s)|none=>none)|none=>none else none|none=>none else none|none=>none)|_=>none)| .load t a=>valO (gV P e.s t (e.eval a))| .store t a x=>skipO (pM P e.s t (e.eval a) (e.eval x))| .nilCheck x=>(match e.eval x with| .ptr i g o=>some (.val (.ptr i g o))| .pf v=>some (.val (.pf v))| .func (.func f) a c=>some (.val (.func (.func f) a c))| .iface t v=>some (.val (.iface t v))|_=>none)| .binOp op t x y _=>valO (abin P op t x y (e.eval x) (e.eval y))| .unOp op _ x=>valO (aun op (e.eval x))| .convert C dst x=>mD P e.s C dst (e.eval x)| .sliceToArrayPointer arr x=>(match P.underlying arr,e.eval x with|some (.array n _),.sl id g off len _=>bif Nat.ble n len then some (.val (.ptr id g off))else none|_,_=>none)| .makeInterface t x=>(match P.underlying t with|some (.interface _)=>none|some _=>some (.val (.iface t (e.eval x)))|none=>none)| .makeFunc fn first cap=>(match fn with| .yield _=>none|fn=>some (.val (.func fn (fS e first) (fS e cap))))| .makeMap t r=>(match(match r with|none=>some true|some h=>match P.underlying t,e.eval h with|some (.map _ _),.int _ _=>some true|_,_=>none)with|some _=>some (.val' (.map e.s.n) (e.s.push (.map [] 0)))|none=>none)| .makeSlice t l c=>(match P.underlying t,e.eval l,e.eval c with|some (.slice u),.int _ (.ofNat l),.int _ (.ofNat c)=>(match xF P u,rV P u,bI P u with|some k,some by_,some z=>bif Nat.ble l c&&Nat.ble (by_*c) (2 ^ 47)&&Nat.ble c (2 ^ 62)&&Nat.beq z.cells.length k then match sG e.s (fN z.cells c)with|some (id,s)=>some (.val' (.sl id 0 0 l (.is c)) s)|none=>none else none|_,_,_=>none)|_,_,_=>none)| .slice t x G E H=>valO (gI P t (e.eval x) (G.map e.eval) (E.map e.eval) (H.map e.eval))| .fieldAddr t x f=>valO (cS P t (e.eval x) f)| .field t x f=>valO (tJ P t (e.eval x) f)| .indexAddr t x i=>valO (cM P t (e.eval x) (e.eval i))| .index t x i=>valO (vR P t (e.eval x) (e.eval i))| .lookup t m k ok=>valO (alookup P e.s t (e.eval m) (e.eval k) ok)| .mapUpdate t m k x| .insert t m k x=>skipO (gJ P e.s t (e.eval m) (e.eval k) (e.eval x))| .range t x=>(match P.underlying t,e.eval x with|some .string,.str b=>some (.val' (.ptr e.s.n 0 0) (e.s.push (.siter b 0)))|_,_=>none)| .next F str=>anext e.s (e.eval F) str| .typeAssert x _ t ok=>(match P.underlying t,e.eval x with|some (.interface _),.nili=>bif ok then(match bI P t with|some z=>some (.val (.tuple [z,.bool false]))|none=>none)else none|some (.interface B),.iface d v=>(match P.info? d with|some i=>bif uK B i.methods then(bif ok then(match bI P t with|some z=>some (.val (.tuple [z,.bool false]))|none=>none)else none)else some (.val (bif ok then .tuple [.iface d v,.bool true]else .iface d v))|none=>none)|some _,.nili=>bif ok then(match bI P t with|some z=>some (.val (.tuple [z,.bool false]))|none=>none)else none|some _,.iface d v=>bif Nat.beq d t then some (.val (bif ok then .tuple [v,.bool true]else v))else bif ok then(match bI P t with|some z=>some (.val (.tuple [z,.bool false]))|none=>none)else none|_,_=>none)| .extract x i=>(match e.eval x with| .tuple vs=>valO vs[i]?|_=>none)| .call c=>(match c.callee with| .builtin b=>abuiltin P e.s b c.argTypes (fS e c.args)| .value f=>iN e.s (call (e.eval f) (fS e c.args) e.s .no)| .invoke A w=>iN e.s (call (.func (.method w) [e.eval A] []) (fS e c.args) e.s .no))| .defer c=>(match c.callee,e.ro with| .value f,none=>(match e.eval f with| .func fn a b=>some (.defer (.call (.func fn a b) (fS e c.args)))|_=>none)|_,_=>none)| .panic x=>(match e.eval x with| .iface t v=>some (.pan (.iface t v) e.s)|_=>none)|_=>none
end ops
def AV.under(n:Nat):Nat->AV->Bool|0,_=>false|d+1,v=>match v with| .top| .bool _| .int _ _| .str _| .nilp| .nils| .nilm| .nilf| .nili=>true| .ptr i _ _| .sl i _ _ _ _| .map i=>Nat.blt i n| .pf v| .iface _ v=>v.under n d| .fz l _| .agg l| .tuple l=>l.all (AV.under n d)| .func f a c=>(match f with| .yield l=>Nat.blt l n|_=>true)&&a.all (AV.under n d)&&c.all (AV.under n d)
def eD(ops:List Oper)(o:Oper)(e:Env):Option Bool:=match o.guard with|none=>some true|some (j,a)=>match(match ops[j]? with|some g=>g.dst|none=>none)with|none=>some false|some d=>match e.t.get d with|some (.bool b)=>some (b==a)|some (.tuple _)=>some false|_=>none
def kN(P:Program)(call:cP)(ops:List Oper):List Oper->Env->Option (Ex × Env)|[],e=>some (.normal,e)|o::rest,e=>match eD ops o e with|none=>none|some false=>(match e.put o.dst .undef with|some e'=>kN P call ops rest e'|none=>none)|some true=>match kR P call o e with|none=>none|some (.val v)=>(match e.put o.dst v with|some e'=>kN P call ops rest e'|none=>none)|some (.val' v s)=>(match(e.setS s).put o.dst v with|some e'=>kN P call ops rest e'|none=>none)|some (.pan v s)=>some (.panic v,{e with s:=s})|some (.defer d)=>(match(e.setDs (d::e.ds)).put o.dst .undef with|some e'=>kN P call ops rest e'|none=>none)|some .recov=>match e.ro,e.r with|none,.pan v=>(match(e.setR (.recd v)).put o.dst v with|some e'=>kN P call ops rest e'|none=>none)|none,_=>(match e.put o.dst .nili with|some e'=>kN P call ops rest e'|none=>none)|some _,_=>none
def aAp(acc:List Nat)(o:Oper):Nat:=o.after.toList.foldl (λm e=>bif Region.binds .any e then m ||| (2 ^ e.on ||| acc.getD e.on 0)else m) 0
def vV:List Oper->List Nat->List Nat|[],acc=>acc|o::rest,acc=>vV rest (acc++[aAp acc o])
def dQ(ops:List Oper):List Nat:=vV ops []
def pO(ops:List Oper)(o:Oper):List Nat:=o.dst.toList++(o.op.operands.toList.filterMap λ| .tmp t=>some t|_=>none)++(match o.guard with|some (j,_)=>(match ops[j]? with|some g=>g.dst.toList|none=>[])|none=>[])
def GM(o:Oper)(l:List Nat):Bool:=match o.dst with|some d=>l.elem d|none=>false
def aGp(ops:List Oper)(as:List Nat)(i:Nat)(a:Oper)(j:Nat)(b:Oper):Bool:=!(GM a (pO ops b)||GM b (pO ops a))||(as.getD j 0).testBit i
def JX(ops:List Oper)(as:List Nat):List Oper->Nat->Bool|[],_=>true|o::rest,i=>((rest.zipIdx (i+1)).all λp=>aGp ops as i o p.2 p.1)&&JX ops as rest (i+1)
def aKg(ops:List Oper):Bool:=ops.zipIdx.all λp=>p.1.after.toList.all λe=>!Region.binds .any e||Nat.blt e.on p.2
def aXh(ops:List Oper):Bool:=ops.all λo=>match o.op with| .select ..=>false|_=>true
def rY(ops:List Oper):Bool:=aXh ops&&aKg ops&&JX ops (dQ ops) ops 0
def iO:Op->Bool| .move _| .assign _| .pick _ _ _| .build _ _| .nilCheck _| .binOp _ _ _ _ _| .unOp _ _ _| .sliceToArrayPointer _ _| .makeInterface _ _| .makeFunc _ _ _| .slice _ _ _ _ _| .fieldAddr _ _ _| .field _ _ _| .indexAddr _ _ _| .index _ _ _| .typeAssert _ _ _ _| .extract _ _=>true|_=>false
def eS:Op->Bool| .alloc _| .box _ _| .buildSlice _ _ _| .makeMap _ _| .makeSlice _ _ _=>true|_=>false
structure TrE where
 i:Nat
 o:Oper
 e:Env
 v:AV
 run:Bool
 chg:Bool
def TrE.isNew(x:TrE):Bool:=x.chg&&eS x.o.op
def TrE.isChg(x:TrE):Bool:=x.chg && !eS x.o.op
abbrev TrR:=List TrE × Env × Option (AV × Sto)
def tK(x:TrE):Option TrR->Option TrR|some (l,f,p)=>some (x::l,f,p)|none=>none
def JY(P:Program)(call:cP)(ops:List Oper):List Oper->Nat->Env->Option TrR|[],_,e=>some ([],e,none)|o::rest,i,e=>match eD ops o e with|none=>none|some false=>(match e.put o.dst .undef with|some e'=>tK {i,o,e,v:=.undef,run:=false,chg:=false} (JY P call ops rest (i+1) e')|none=>none)|some true=>match kR P call o e with|some (.val v)=>(match e.put o.dst v with|some e'=>tK {i,o,e,v,run:=true,chg:=false} (JY P call ops rest (i+1) e')|none=>none)|some (.val' v s)=>(match(e.setS s).put o.dst v with|some e'=>tK {i,o,e,v,run:=true,chg:=true} (JY P call ops rest (i+1) e')|none=>none)|some (.pan v s)=>some ([{i,o,e,v,run:=true,chg:=true}],{e with s:=s},some (v,s))|_=>none
def dM:List TrE->List Sto|[]=>[]|x::l=>bif x.isChg then x.e.s::dM l else dM l
def fD(l:List TrE):List Nat:=(l.filter TrE.isChg).map (·.i)
def oE(l:List TrE):List (Nat × Nat):=(l.filter TrE.isNew).map λx=>(x.i,x.e.s.n)
def iP(as:List Nat):List Nat->Bool|[]=>true|[_]=>true|c::d::rest=>(as.getD d 0).testBit c&&iP as (d::rest)
def yV(as:List Nat)(ns:List (Nat × Nat))(cs:List Nat):Bool:=cs.all λc=>ns.all λn=>Nat.blt c n.1||(as.getD c 0).testBit n.1
def isVal(v:AV):Option ORes->Bool|some (.val w)=>AV.beq 10000 v w|_=>false
def qJ(as:List Nat)(i:Nat):List (Nat × Nat)->Sto->Sto|[],s=>s|n::ns,s=>bif (as.getD i 0).testBit n.1 then qJ as i ns s else qJ as i ns {s with o:=s.o.del n.2}
def lE(P:Program)(call:cP)(n:Nat)(as:List Nat)(ns:List (Nat × Nat))(x:TrE):List Nat->List Sto->Bool|[],[s]=>isVal x.v (kR P call x.o {x.e with s:={qJ as x.i ns s with n:=n}})|c::cs,s::a=>(bif (as.getD x.i 0).testBit c then true else isVal x.v (kR P call x.o {x.e with s:={qJ as x.i ns s with n:=n}}))&&(bif (as.getD c 0).testBit x.i then true else lE P call n as ns x cs a)|_,_=>false
def keptY(n0:Nat)(as:List Nat)(ns:List (Nat × Nat))(i id:Nat):Prop:=id<n0∨∃k,(k,id)∈ns/\(as.getD i 0).testBit k=true
def aGq(P:Program)(call:cP)(Y:Nat->Prop)(x:TrE):Prop:=∀a:Sto,(∀id,Y id->a.get id=x.e.s.get id)->kR P call x.o {x.e with s:=a}= some (.val x.v)
def sS(P:Program)(call:cP)(as:List Nat)(n0:Nat)(ns:List (Nat × Nat))(cs:List Nat)(x:TrE):Bool:=(cs.all λc=>(as.getD x.i 0).testBit c||(as.getD c 0).testBit x.i)&&@decide (aGq P call (keptY n0 as ns x.i) x) (Classical.propDecidable _)
def aGr(Y:Nat->Prop)(s a:Sto):Prop:=∀id,Y id->s.get id=a.get id
def GN(as:List Nat)(i:Nat)(m:Nat->Prop)(a:Sto):List Nat->List Sto->Prop|[],b=>∀s∈b,aGr m s a|c::cs,s::b=>aGr m s a/\((∀d∈c::cs,(as.getD d 0).testBit i=true)∨GN as i m a cs b)|_::_,[]=>False
def vW(P:Program)(call:cP)(as:List Nat)(n0:Nat)(cs:List Nat)(a:List Sto)(x:TrE):Bool:=@decide (∃Y:Nat->Prop,(∀id,Y id->id<n0)/\GN as x.i Y x.e.s cs a/\aGq P call Y x) (Classical.propDecidable _)
def a8o(as:List Nat)(ns:List (Nat × Nat))(cs:List Nat)(x:TrE):Bool:=(cs.all λc=>(as.getD x.i 0).testBit c||(as.getD c 0).testBit x.i)&&ns.all λn=>(as.getD x.i 0).testBit n.1||(as.getD n.1 0).testBit x.i
def oN(P:Program)(call:cP)(n n0:Nat)(as:List Nat)(ns:List (Nat × Nat))(cs:List Nat)(a:List Sto):List TrE->Bool|[]=>true|x::l=>(x.chg || !x.run||iO x.o.op||a8o as ns cs x||lE P call n as ns x cs a||sS P call as n0 ns cs x||vW P call as n0 cs a x)&&oN P call n n0 as ns cs a l
def gY(P:Program)(call:cP)(n n0:Nat)(as:List Nat)(l:List TrE)(a:Sto):Bool:=match fD l,oE l with|[],[]=>true|_,_=>oN P call n n0 as (oE l) (fD l) (dM l++[a]) l
def unb(n:Nat)(v:AV):Bool:=v.under n 100 ||@decide (∃d,v.under n d=true) (Classical.propDecidable _)
def mE(l:List TrE):Bool:=l.all λx=>!x.chg||(x.o.op.operands.toList.all λy=>unb x.e.s.n (x.e.eval y))
def kO:List TrE->Nat->Bool|[],_=>true|[x],n=>Nat.ble x.e.s.n n|x::y::l,n=>Nat.ble x.e.s.n y.e.s.n&&kO (y::l) n
def fW(e:Env):List Oper->Env|[]=>e|o::rest=>match o.dst with|some d=>fW {e with t:=e.t.del d} rest|none=>fW e rest
def nA(as:List Nat)(c:Nat):List Oper->Nat->Bool|[],_=>true|_::rest,i=>(!Nat.blt c i||(as.getD i 0).testBit c)&&nA as c rest (i+1)
def EI(P:Program)(call:cP)(ops:List Oper)(e:Env):Option (Ex × Env):=match JY P call ops ops 0 e with|none=>none|some (l,f,p)=>let as:=dQ ops;let cs:=fD l;let ns:=oE l;bif P.follows .mixedOrders&&rY ops&&iP as cs&&yV as ns cs&&kO l f.s.n&&mE l&&gY P call f.s.n e.s.n as l f.s then match p with|none=>some (.normal,f)|some (v,s)=>bif nA as (l.length-1) ops 0 then some (.panic v,fW {e with s:=s} ops)else none else none
def sT(P:Program)(call:cP)(ops:List Oper)(a:Bool)(e:Env):Option (Ex × Env):=bif a then EI P call ops e else kN P call ops ops e
def loopGo(f:Env->Option (Ex × Env)):Nat->Env->Option (Ex × Env)|0,_=>none|n+1,e=>match f e with|some (.normal,e')=>loopGo f n e'|r=>r
def jD(e:Env)(ds:List ADef)(f:Nat)(s:Sto):Option (Ex × Env):=match s.get f with|some (.loop st c fn nt t ps a b d)=>(match st with| .busy=>none|_=>let e':Env:={e with s:=s.put f (.loop .exhausted c fn nt t ps a b d),ds:=ds};match c with|none=>some (.normal,e')|some .ret=>some (.ret,e')|some (.exit id)=>some (.exit id,e')|some _=>none)|_=>none
def BY(call:cP)(f:Operand)(b:Array Tmp)(a c:Code)(e:Env):Option (Ex × Env):=match(match e.ro with|none=>some (e.s.push (.defs (some [])),e.s.n,ADef.collected e.s.n::e.ds)|some l=>match e.s.get l with|some (.loop _ _ _ _ _ _ _ _ d)=>some (e.s,d,e.ds)|_=>none)with|none=>none|some (h,d,ds)=>let k:=h.push (.loop .ready none e.fn e.nt e.t b.toList a c d);match call (e.eval f) [.func (.yield h.n) [] []] k .no with|some (.ret _ m,_)=>jD e ds h.n (match m with|some s=>s|none=>k)|some (.pan v m,_)=>some (.panic v,{e with s:=(match m with|some s=>s|none=>k),ds:=ds})|none=>none
def bN(P:Program)(call:cP)(n:Nat):Code->Env->Option (Ex × Env)| .skip,e=>some (.normal,e)| .label _,e=>some (.normal,e)| .region _ ops d,e=>sT P call ops.toList d e| .seq a b,e=>(match bN P call n a e with|some (.normal,e')=>bN P call n b e'|r=>r)| .cond c x y,e=>(match e.eval c with| .bool true=>bN P call n x e| .bool false=>bN P call n y e|_=>none)| .block id c,e=>(match bN P call n c e with|some (.exit i,e')=>bif Nat.beq i id then some (.normal,e')else some (.exit i,e')|r=>r)| .loop c,e=>loopGo (bN P call n c) n e| .scope c,e=>(match bN P call n c e with|some (.goto _,_)=>none|r=>r)| .exit id,e=>some (.exit id,e)| .ret,e=>some (.ret,e)| .rangeFunc f ps a b,e=>BY call f ps a b e| .goto _,_=>none| .refuse _,_=>none
def bA(P:Program)(e:Env):List ResultVar->Option (List AV)|[]=>some []| .tmp t::l=>(match bA P e l with|some r=>some ((match e.t.get t with|some v=>v|none=>.top)::r)|none=>none)| .cell a t::l=>match gV P e.s t (match e.t.get a with|some v=>v|none=>.top)with|some v=>(match bA P e l with|some r=>some (v::r)|none=>none)|none=>none
def NR(n:Nat):ARec->Bool| .no=>true| .pan v| .recd v=>v.under n 100
def eN(s:Sto)(v:AV)(e:Env):Option Sto:=bif Nat.ble s.n e.s.low&&(v.under s.n 100&&NR s.n e.r)then none else some {e.s with low:=Nat.min s.low e.s.low}
def vX:AV->Bool| .func (.yield _) _ _=>true|_=>false
inductive LRes where
 | ret (v:AV)
 | pan (v:AV)
def dleave(P:Program)(call:cP)(fn:Func):Nat->Option AV->Env->Option (LRes × Env)|0,_,_=>none|m+1,a,e=>match e.ds with|[]=>(match a with|none=>(match bA P e fn.results.toList with|some [v]=>some (.ret v,e)|some l=>some (.ret (.tuple l),e)|none=>none)|some v=>some (.pan v,e))| .collected id::ds=>(match e.s.get id with|some (.defs (some l))=>dleave P call fn m a {e with ds:=l++ds,s:=e.s.put id (.defs none)}|_=>none)| .call c args::ds=>bif vX c then none else match a with|none=>(match call c args e.s .no with|some (.ret _ b,.no)=>dleave P call fn m none {e with ds:=ds,s:=(match b with|some s=>s|none=>e.s)}|some (.pan v b,.no)=>dleave P call fn m (some v) {e with ds:=ds,s:=(match b with|some s=>s|none=>e.s)}|_=>none)|some p=>match call c args e.s (.pan p)with|some (.ret _ b,.recd _)=>dleave P call fn m none {e with ds:=ds,s:=(match b with|some s=>s|none=>e.s)}|some (.ret _ b,.pan d)=>dleave P call fn m (some d) {e with ds:=ds,s:=(match b with|some s=>s|none=>e.s)}|_=>none
def GO(s:Sto):Option (LRes × Env)->Option (CRes × ARec)|some (.ret v,e)=>some (.ret v (eN s v e),e.r)|some (.pan v,e)=>some (.pan v (eN s v e),e.r)|none=>none
def okFn(P:Program)(f:FuncId):Bool:=match P.funcs[f]? with|some fn=>fn.name != "runtime.NumGoroutine" && fn.body.isSome|none=>false
def uL(P:Program)(call:cP)(n:Nat)(f:FuncId)(args:List AV)(s:Sto)(r:ARec):Option (CRes × ARec):=bif okFn P f then match P.funcs[f]? with|some fn=>(match fn.body with|some c=>(match bN P call n c {nt:=Nat.max args.length fn.ntmps,ro:=none,fn:=f,t:=Tr.leaf.lay 0 args,ds:=[],s:={s with low:=s.n},r:=r}with|some (.normal,e)=>GO s (dleave P call fn n none e)|some (.ret,e)=>GO s (dleave P call fn n none e)|some (.panic v,e)=>GO s (dleave P call fn n (some v) e)|_=>none)|none=>none)|none=>none else none
def EJ(nt:Nat):Tr AV->List Nat->List AV->Option (Tr AV)|t,p::ps,a::as=>bif Nat.blt p nt then EJ nt (t.set p a) ps as else none|t,[],[]=>some t|_,_,_=>none
def fM(s:Sto)(l:Nat)(c:Option Code)(e:Env):Option (CRes × ARec):=match e.s.get l,e.ds with|some (.loop _ _ fn nt t ps a b d),[]=>some (.ret (.bool c.isNone) (some {e.s.put l (.loop (bif c.isNone then .ready else .done) c fn nt t ps a b d)with low:=Nat.min s.low (e.s.put l (.loop .ready none fn nt t ps a b d)).low}),.no)|_,_=>none
def pP(P:Program)(call:cP)(n:Nat)(l:Nat)(args:List AV)(s:Sto):Option (CRes × ARec):=match s.get l with|some (.loop st o fn nt t ps a b d)=>(match EJ nt t ps args with|some u=>(match bN P call n a {nt:=nt,ro:=some l,fn:=fn,t:=u,ds:=[],s:={s with low:=s.n},r:=.no}with|some (.normal,e)=>(match e.s.get l with|some (.loop .ready c f h m k p b' q)=>(match bN P call n b {e with s:=e.s.put l (.loop .busy c f h m k p b' q)}with|some (.normal,e)=>fM s l none e|some (.ret,e)=>fM s l (some .ret) e|some (.exit id,e)=>fM s l (some (.exit id)) e|some (.panic v,e)=>(match e.ds with|[]=>bif okFn P e.fn then some (.pan v (some {e.s with low:=Nat.min s.low e.s.low}),.no)else none|_=>none)|_=>none)|_=>none)|_=>none)|none=>none)|_=>none
abbrev Orc:=FuncId->List AV->Sto->Option CRes
def GP(O:Orc)(a:AV)(args:List AV)(s:Sto)(r:ARec):Option CRes:=match r with| .no=>(match a with| .func (.func g) first cap=>O g (first++args++cap) s|_=>none)|_=>none
def aT(P:Program)(O:Orc):Nat->cP|0=>λ_ _ _ _=>none|n+1=>λa args s r=>match GP O a args s r with|some res=>some (res,.no)|none=>match kB P s a args with|some (.fn f args)=>uL P (aT P O n) n f args s r|some (.round l args)=>(match r with| .no=>pP P (aT P O n) n l args s|_=>none)|none=>none
abbrev fE:=List (FuncId × List AV × AV)
def tab:fE->Orc|[],_,_,_=>none|x::T,f,args,s=>bif Nat.beq x.1 f&&fV (AV.beq 1000) x.2.1 args then some (.ret x.2.2 none)else tab T f args s
def Sto.empty:Sto:={n:=0,low:=0,o:=.leaf}
def bCl(P:Program)(O:Orc)(n:Nat)(f:FuncId)(args:List AV):Option (CRes × ARec):=uL P (aT P O n) n f args .empty .no
def bCm(P:Program)(O:Orc)(n:Nat)(f:FuncId)(args:List AV)(v:AV):Bool:=args.all (AV.under 0 100)&&match bCl P O n f args with|some (.ret w none,.no)=>AV.beq 1000 v w|_=>false
