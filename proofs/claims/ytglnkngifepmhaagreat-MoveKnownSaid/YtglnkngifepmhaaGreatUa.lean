/-
  A deterministic abstract machine over the model's own code: definitions.
-/
import Derived.AtR
import Derived.Orders
set_option linter.unusedVariables false
set_option linter.unusedSimpArgs false

namespace Go.Abs
noncomputable section

inductive Tr (α : Type) where
  | leaf
  | node (v : Option α) (l r : Tr α)

def Tr.get {α : Type} (t : Tr α) : Nat → Option α :=
  @Tr.rec α (fun _ => Nat → Option α) (fun _ => none) (fun v _ _ gl gr i => @Bool.rec (fun _ => Option α) (@Bool.rec (fun _ => Option α) (gr (Nat.sub (Nat.div i 2) 1)) (gl (Nat.div i 2)) (Nat.beq (Nat.mod i 2) 1)) v (Nat.beq i 0)) t

/-- place i put to something, or to nothing; a fuel greater than i is enough -/
def Tr.setF {α : Type} (f : Nat) : Tr α → Nat → Option α → Tr α :=
  @Nat.rec (fun _ => Tr α → Nat → Option α → Tr α) (fun t _ _ => t)
    (fun _ ih t i a => @Tr.rec α (fun _ => Tr α)
      (@Bool.rec (fun _ => Tr α) (@Bool.rec (fun _ => Tr α) (.node none .leaf (ih .leaf (Nat.sub (Nat.div i 2) 1) a)) (.node none (ih .leaf (Nat.div i 2) a) .leaf) (Nat.beq (Nat.mod i 2) 1)) (.node a .leaf .leaf) (Nat.beq i 0))
      (fun v l r _ _ => @Bool.rec (fun _ => Tr α) (@Bool.rec (fun _ => Tr α) (.node v l (ih r (Nat.sub (Nat.div i 2) 1) a)) (.node v (ih l (Nat.div i 2) a) r) (Nat.beq (Nat.mod i 2) 1)) (.node a l r) (Nat.beq i 0)) t) f
def Tr.set {α : Type} (t : Tr α) (i : Nat) (a : α) : Tr α := Tr.setF (i + 1) t i (some a)
def Tr.del {α : Type} (t : Tr α) (i : Nat) : Tr α := Tr.setF (i + 1) t i none

/-- a list laid from place i on -/
def Tr.lay {α : Type} : Tr α → Nat → List α → Tr α
  | t, _, [] => t
  | t, i, a :: l => Tr.lay (t.set i a) (i + 1) l

/-- n places from i on -/
def Tr.row {α : Type} (t : Tr α) : (i n : Nat) → Option (List α)
  | _, 0 => some []
  | i, n + 1 => match t.get i with
    | none => none
    | some a => match t.row (i + 1) n with
      | none => none
      | some l => some (a :: l)

/-- what is known of a slice's capacity: how much it is; or that its array has room for all of it, in elements of so many cells; or this, and that it is at least so much -/
inductive ACap where
  | is (c : Nat)
  | room (k : Nat)
  | least (k c : Nat)

inductive AV where
  | top
  | bool (b : Bool)
  | int (k : IntKind) (n : Int)
  | str (s : List Nat)
  | nilp
  | ptr (id gen off : Nat)
  | pf (v : AV)
  | nils
  | sl (id gen off len : Nat) (cap : ACap)
  | fz (l : List AV) (clip : Bool)
  | nilm
  | map (id : Nat)
  | func (fn : Fn) (first captured : List AV)
  | nilf
  | iface (t : TypeId) (v : AV)
  | nili
  | agg (cs : List AV)
  | tuple (vs : List AV)

def AV.undef : AV := .tuple []

def AV.cells : AV → List AV
  | .agg cs => cs
  | v => [v]

/-- a value of one cell, and which one it is -/
def AV.isCell : AV → Bool
  | .top | .agg _ | .tuple _ => false
  | _ => true

inductive ADef where
  | call (fv : AV) (args : List AV)
  | collected (id : Nat)

inductive AObj where
  | cells (gen n : Nat) (c : Tr AV)
  | map (es : List (AV × AV × Nat)) (clock : Nat)
  | siter (s : List Nat) (pos : Nat)
  | loop (state : LoopState) (pending : Option Code) (fn : FuncId) (nt : Nat) (t : Tr AV) (params : List Nat) (assign body : Code) (defers : Nat)
  | defs (ds : Option (List ADef))

structure Sto where
  n : Nat
  low : Nat
  o : Tr AObj

def Sto.get (s : Sto) (i : Nat) : Option AObj := bif Nat.blt i s.n then s.o.get i else none
def Sto.push (s : Sto) (x : AObj) : Sto := { n := s.n + 1, low := s.low, o := s.o.set s.n x }
def Sto.put (s : Sto) (i : Nat) (x : AObj) : Sto := { n := s.n, low := bif Nat.blt i s.low then i else s.low, o := s.o.set i x }

inductive ARec where
  | no
  | pan (v : AV)
  | recd (v : AV)

structure Env where
  nt : Nat
  ro : Option Nat
  fn : FuncId
  t : Tr AV
  ds : List ADef
  s : Sto
  r : ARec

inductive Ex where
  | normal
  | exit (id : Nat)
  | goto (l : Nat)
  | ret
  | panic (v : AV)

/-- how a call ends; no store: it is as it was -/
inductive CRes where
  | ret (v : AV) (s : Option Sto)
  | pan (v : AV) (s : Option Sto)

/-- what a call of a function value comes to: with its arguments, in a store, and with what it may recover -/
abbrev CallT := AV → List AV → Sto → ARec → Option (CRes × ARec)

inductive ORes where
  | val (v : AV)
  | val' (v : AV) (s : Sto)
  | pan (v : AV) (s : Sto)
  | defer (d : ADef)
  | recov

/-- a constant of the code -/
def ofVs : List Value → Option (List AV)
  | [] => some []
  | v :: l => match (match v with
      | .bool b => some (AV.bool b)
      | .int k n => some (AV.int k n)
      | .string s => some (AV.str (s.data.toList.map (·.toNat)))
      | .pointer none => some AV.nilp
      | .slice none 0 0 => some AV.nils
      | .map none => some AV.nilm
      | .nilFunc => some AV.nilf
      | .nilIface => some AV.nili
      | _ => none) with
    | none => none
    | some a => match ofVs l with
      | none => none
      | some r => some (a :: r)
def ofV : Value → AV
  | .agg cs => match ofVs cs.toList with
    | some l => .agg l
    | none => .top
  | v => match ofVs [v] with
    | some [a] => a
    | _ => .top

def Env.eval (e : Env) : Operand → AV
  | .tmp t => match e.t.get t with
    | some v => v
    | none => .top
  | .const v => ofV v
  | .global _ => .top
  | .func f => .func (.func f) [] []

def Env.put (e : Env) (dst : Option Tmp) (v : AV) : Option Env :=
  match dst with
  | none => some e
  | some d => match e with
    | ⟨nt, ro, fn, t, ds, s, r⟩ => bif Nat.blt d nt then some ⟨nt, ro, fn, t.set d v, ds, s, r⟩ else none

/-! by parts: so that the kernel lays no chain of projections -/
def Env.setS (e : Env) (s' : Sto) : Env := match e with
  | ⟨nt, ro, fn, t, ds, _, r⟩ => ⟨nt, ro, fn, t, ds, s', r⟩
def Env.setDs (e : Env) (ds' : List ADef) : Env := match e with
  | ⟨nt, ro, fn, t, _, s, r⟩ => ⟨nt, ro, fn, t, ds', s, r⟩
def Env.setR (e : Env) (r' : ARec) : Env := match e with
  | ⟨nt, ro, fn, t, ds, s, _⟩ => ⟨nt, ro, fn, t, ds, s, r'⟩

section types
variable (P : Program)
def tsz (t : TypeId) : Option Nat := (P.info? t).map (·.size)
def tbytes (t : TypeId) : Option Nat := (P.info? t).map (·.bytes)
def isAggD : TypeDesc → Bool
  | .struct _ | .array _ _ => true
  | _ => false
def tagg (t : TypeId) : Option Bool := (P.underlying t).map isAggD
def tzero (t : TypeId) : Option AV :=
  match (P.info? t).bind (·.zero) with
  | some v => match ofV v with
    | .top => none
    | a => some a
  | none => none
end types

/-- equality by a bound on the depth -/
def lbeq {α : Type} (f : α → α → Bool) : List α → List α → Bool
  | [], [] => true
  | a :: l, b :: m => f a b && lbeq f l m
  | _, _ => false
def intBeq : Int → Int → Bool
  | .ofNat a, .ofNat b => Nat.beq a b
  | .negSucc a, .negSucc b => Nat.beq a b
  | _, _ => false
def capBeq : ACap → ACap → Bool
  | .is a, .is b => Nat.beq a b
  | .room a, .room b => Nat.beq a b
  | .least a c, .least b d => Nat.beq a b && Nat.beq c d
  | _, _ => false
def fnBeq (a b : Fn) : Bool := decide (a = b)
def AV.beq : Nat → AV → AV → Bool
  | 0, _, _ => false
  | d + 1, a, b => match a, b with
    | .bool a, .bool b => a == b
    | .int j a, .int k b => decide (j = k) && intBeq a b
    | .str a, .str b => lbeq Nat.beq a b
    | .nilp, .nilp | .nils, .nils | .nilm, .nilm | .nilf, .nilf | .nili, .nili => true
    | .ptr i g o, .ptr i' g' o' => Nat.beq i i' && Nat.beq g g' && Nat.beq o o'
    | .pf v, .pf w => AV.beq d v w
    | .sl i g o n c, .sl i' g' o' n' c' => Nat.beq i i' && Nat.beq g g' && Nat.beq o o' && Nat.beq n n' && capBeq c c'
    | .fz l c, .fz m c' => lbeq (AV.beq d) l m && (c == c')
    | .map i, .map j => Nat.beq i j
    | .func f a c, .func g b e => fnBeq f g && lbeq (AV.beq d) a b && lbeq (AV.beq d) c e
    | .iface t v, .iface u w => Nat.beq t u && AV.beq d v w
    | .agg a, .agg b => lbeq (AV.beq d) a b
    | .tuple a, .tuple b => lbeq (AV.beq d) a b
    | _, _ => false

section ops
variable (P : Program)

def lslice {α : Type} (l : List α) (i n : Nat) : List α := (l.drop i).take n

/-- a part of a value's cells, as a value of a type -/
def apart (t : TypeId) (cs : List AV) (off : Nat) : Option AV :=
  match tagg P t, tsz P t with
  | some true, some n => bif Nat.ble (off + n) cs.length then some (.agg (lslice cs off n)) else none
  | some false, _ => cs[off]?
  | _, _ => none

/-- the cells of a variable, as a value of its type -/
def aload (s : Sto) (t : TypeId) : AV → Option AV
  | .ptr id g off => match s.get id with
    | some (.cells g' n c) => bif Nat.beq g g' then
        match tagg P t, tsz P t with
        | some true, some k => bif Nat.ble (off + k) n then (match c.row off k with | some l => some (.agg l) | none => none) else none
        | some false, _ => bif Nat.blt off n then c.get off else none
        | _, _ => none
      else none
    | _ => none
  | .pf v => match tagg P t, tsz P t, v with
    | some true, some k, .agg cs => bif Nat.beq cs.length k then some v else none
    | some false, _, v => bif v.isCell then some v else none
    | _, _, _ => none
  | _ => none

def astore (s : Sto) (t : TypeId) (a v : AV) : Option Sto :=
  match a with
  | .ptr id g off => match s.get id, tsz P t with
    | some (.cells g' n c), some k => bif Nat.beq g g' && Nat.ble (off + k) n && Nat.beq v.cells.length k && v.cells.all AV.isCell then
        some (s.put id (.cells g' n (c.lay off v.cells)))
      else none
    | _, _ => none
  | _ => none

/-- a new row of cells -/
def anew (s : Sto) (cs : List AV) : Option (Nat × Sto) :=
  bif cs.all AV.isCell then some (s.n, s.push (.cells 0 cs.length (Tr.leaf.lay 0 cs))) else none

def fillA (place : Nat → Option (Nat × Nat)) (cells : List AV) : List (Nat × AV) → Option (List AV)
  | [] => some cells
  | (i, v) :: rest => match place i with
    | none => none
    | some (off, size) =>
      bif Nat.beq v.cells.length size && Nat.ble (off + size) cells.length && v.cells.all AV.isCell then fillA place (cells.take off ++ v.cells ++ cells.drop (off + size)) rest
      else none

def repA (cs : List AV) : Nat → List AV
  | 0 => []
  | n + 1 => cs ++ repA cs n

/-- where the fields of a struct lie, and how many cells they have -/
def fplaces : List Field → Option (List (Nat × Nat))
  | [] => some []
  | f :: l => match tsz P f.type with
    | none => none
    | some n => match fplaces l with
      | none => none
      | some r => some ((f.offset, n) :: r)
def abuild (t : TypeId) (parts : List (Nat × AV)) : Option AV :=
  match tzero P t, P.underlying t with
  | some z, some (.struct fields) => match fplaces P fields.toList with
    | some ps => match fillA (fun i => ps[i]?) z.cells parts with
      | some cs => some (.agg cs)
      | none => none
    | none => none
  | some z, some (.array _ elem) => match tsz P elem with
    | some k => match fillA (fun i => some (i * k, k)) z.cells parts with
      | some cs => some (.agg cs)
      | none => none
    | none => none
  | _, _ => none

def aint : AV → Option Int
  | .int _ n => some n
  | _ => none

/-- an index as a natural number less than a bound -/
def aidx (v : AV) (len : Nat) : Option Nat :=
  match v with
  | .int _ (.ofNat i) => bif Nat.blt i len then some i else none
  | _ => none
/-- a bound as a natural number at most another one -/
def abnd (v : Option AV) (dflt most : Nat) : Option Nat :=
  match v with
  | none => some dflt
  | some (.int _ (.ofNat i)) => bif Nat.ble i most then some i else none
  | _ => none

def capMost (len : Nat) : ACap → Nat
  | .is c => c
  | .room _ => len
  | .least _ c => c
def roomTo (k len c : Nat) : ACap := bif Nat.beq len c then .room k else .least k c
def asliceS (k : Nat) (x : AV) (lo hi mx : Option AV) : Option AV :=
  match x, mx with
  | .nils, none => match abnd hi 0 0 with
    | some h => match abnd lo 0 h with
      | some _ => some .nils
      | none => none
    | none => none
  | .nils, some m => match abnd (some m) 0 0, hi with
    | some c, some h => match abnd (some h) 0 c with
      | some h => match abnd lo 0 h with
        | some _ => some .nils
        | none => none
      | none => none
    | _, _ => none
  | .fz xs c, none => match abnd hi xs.length xs.length with
    | some h => match abnd lo 0 h with
      | some l => bif xs.all (fun v => Nat.beq v.cells.length k) then some (.fz (lslice xs l (h - l)) (c && Nat.beq h xs.length)) else none
      | none => none
    | none => none
  | .fz xs _, some m => match abnd (some m) 0 xs.length, hi with
    | some c', some h => match abnd (some h) 0 c' with
      | some h => match abnd lo 0 h with
        | some l => bif xs.all (fun v => Nat.beq v.cells.length k) then some (.fz (lslice xs l (h - l)) (Nat.beq h c')) else none
        | none => none
      | none => none
    | _, _ => none
  | .sl id g off len (.is c), none => match abnd hi len c with
    | some h => match abnd lo 0 h with
      | some l => some (bif Nat.beq c l then .sl id g off (h - l) (.is (c - l)) else .sl id g (off + l * k) (h - l) (.is (c - l)))
      | none => none
    | none => none
  | .sl id g off len (.room r), none => match abnd hi len len with
    | some h => match abnd lo 0 h with
      | some l => bif Nat.beq k r then (bif Nat.blt l len then some (.sl id g (off + l * k) (h - l) (roomTo r (h - l) (len - l))) else some (.fz [] false)) else none
      | none => none
    | none => none
  | .sl id g off len (.least r c), none => match abnd hi len c with
    | some h => match abnd lo 0 h with
      | some l => bif Nat.beq k r then (bif Nat.blt l c then some (.sl id g (off + l * k) (h - l) (roomTo r (h - l) (c - l))) else none) else none
      | none => none
    | none => none
  | .sl id g off len c, some m => match abnd (some m) 0 (capMost len c), hi with
    | some c', some h => match abnd (some h) 0 c' with
      | some h => match abnd lo 0 h with
        | some l => some (bif Nat.beq c' l then .sl id g off (h - l) (.is (c' - l)) else .sl id g (off + l * k) (h - l) (.is (c' - l)))
        | none => none
      | none => none
    | _, _ => none
  | _, _ => none

def aslice (t : TypeId) (x : AV) (lo hi mx : Option AV) : Option AV :=
  match P.underlying t with
  | some .string => match x, mx with
    | .str s, none => match abnd hi s.length s.length with
      | some h => match abnd lo 0 h with
        | some l => some (.str (lslice s l (h - l)))
        | none => none
      | none => none
    | _, _ => none
  | some (.slice e) => match tsz P e with
    | some k => asliceS k x lo hi mx
    | none => none
  | some (.array n e) => match x, mx, tsz P e with
    | .ptr id g off, none, some k => match abnd hi n n with
      | some h => match abnd lo 0 h with
        | some l => some (bif Nat.beq n l then .sl id g off (h - l) (.is (n - l)) else .sl id g (off + l * k) (h - l) (.is (n - l)))
        | none => none
      | none => none
    | _, _, _ => none
  | _ => none

/-- where a part of a variable that stays as it is lies -/
def apfPart (t : TypeId) (cs : List AV) (off : Nat) : Option AV :=
  match apart P t cs off with
  | some v => (match tagg P t with
    | some true => some (.pf v)
    | _ => bif v.isCell then some (.pf v) else none)
  | none => none
/-- where a field of a struct lies -/
def afieldAddr (t : TypeId) (a : AV) (f : Nat) : Option AV :=
  match P.underlying t with
  | some (.struct fields) => match fields[f]? with
    | some fd => match tsz P fd.type, a with
      | some (_ + 1), .ptr id g off => some (.ptr id g (off + fd.offset))
      | some (_ + 1), .pf (.agg cs) => apfPart P fd.type cs fd.offset
      | _, _ => none
    | none => none
  | _ => none

def afield (t : TypeId) (x : AV) (f : Nat) : Option AV :=
  match P.underlying t, x with
  | some (.struct fields), .agg cs => match fields[f]? with
    | some fd => apart P fd.type cs fd.offset
    | none => none
  | _, _ => none

def aindexAddr (t : TypeId) (x i : AV) : Option AV :=
  match P.underlying t, x with
  | some (.array len e), .ptr id g off => match aidx i len, tsz P e with
    | some i, some k => some (.ptr id g (off + i * k))
    | _, _ => none
  | some (.array len e), .pf (.agg cs) => match aidx i len, tsz P e with
    | some i, some k => apfPart P e cs (i * k)
    | _, _ => none
  | some (.slice e), .sl id g off len _ => match aidx i len, tsz P e with
    | some i, some k => some (.ptr id g (off + i * k))
    | _, _ => none
  | some (.slice e), .fz xs _ => match aidx i xs.length, tsz P e with
    | some i, some k => match xs[i]? with
      | some v => bif Nat.beq v.cells.length k then some (.pf v) else none
      | none => none
    | _, _ => none
  | _, _ => none

def aindex (t : TypeId) (x i : AV) : Option AV :=
  match P.underlying t, x with
  | some (.array len e), .agg cs => match aidx i len, tsz P e with
    | some i, some k => apart P e cs (i * k)
    | _, _ => none
  | some .string, .str s => match aidx i s.length with
    | some i => match s[i]? with
      | some b => some (.int .u8 (.ofNat b))
      | none => none
    | none => none
  | _, _ => none

/-- '==' of two values of a type -/
def aeqs (f : TypeId → AV → AV → Option Bool) (xs ys : List AV) : List (TypeId × Nat) → Option Bool
  | [] => some true
  | (t, off) :: rest => match apart P t xs off, apart P t ys off with
    | some x, some y => match f t x y with
      | some true => aeqs f xs ys rest
      | some false => some false
      | none => none
    | _, _ => none
def afieldList (fields : Array Field) : List (TypeId × Nat) :=
  (fields.toList.filter fun f => f.name != "_").map fun f => (f.type, f.offset)
def aelemList (e k : Nat) : (n i : Nat) → List (TypeId × Nat)
  | 0, _ => []
  | n + 1, i => (e, i * k) :: aelemList e k n (i + 1)
/-- a frozen slice against nil -/
def aeqFz : Option TypeDesc → AV → AV → Option Bool
  | some (.slice _), .nils, .fz _ _ | some (.slice _), .fz _ _, .nils => some false
  | _, _, _ => none
def aeq : Nat → TypeId → AV → AV → Option Bool
  | 0, _, _, _ => none
  | d + 1, t, x, y => match P.underlying t, x, y with
    | some .bool, .bool a, .bool b => some (a == b)
    | some (.int _), .int k a, .int k' b => bif decide (k = k') then some (intBeq a b) else none
    | some .string, .str a, .str b => some (lbeq Nat.beq a b)
    | some (.pointer _), .nilp, .nilp => some true
    | some (.pointer _), .nilp, .ptr _ _ _ | some (.pointer _), .ptr _ _ _, .nilp => some false
    | some (.pointer _), .nilp, .pf _ | some (.pointer _), .pf _, .nilp => some false
    | some (.slice _), .nils, .nils => some true
    | some (.slice _), .nils, .sl _ _ _ _ _ | some (.slice _), .sl _ _ _ _ _, .nils => some false
    | some (.map _ _), .nilm, .nilm => some true
    | some (.map _ _), .nilm, .map _ | some (.map _ _), .map _, .nilm => some false
    | some (.func _ _ _), .nilf, .nilf => some true
    | some (.func _ _ _), .nilf, .func _ _ _ | some (.func _ _ _), .func _ _ _, .nilf => some false
    | some (.interface _), .nili, .nili => some true
    | some (.interface _), .nili, .iface _ _ | some (.interface _), .iface _ _, .nili => some false
    | some (.struct fields), .agg xs, .agg ys =>
      bif P.stoodInHeld t then none else aeqs P (aeq d) xs ys (afieldList fields)
    | some (.array n e), .agg xs, .agg ys => match tsz P e with
      | some k => aeqs P (aeq d) xs ys (aelemList e k n 0)
      | none => none
    | u, x, y => aeqFz u x y

def aguard (op : BinOp) (t : TypeId) (x y : Operand) (a b : AV) : Bool :=
  match op, a, b with
  | .eql, .nili, .nili | .neq, .nili, .nili => (match x with | .const _ => true | _ => false) || (match y with | .const _ => true | _ => false)
  | .eql, .agg _, .agg _ | .neq, .agg _, .agg _ => !P.eqGuardType P.depth t
  | _, _, _ => true

def natLess : List Nat → List Nat → Bool
  | _, [] => false
  | [], _ :: _ => true
  | a :: x, b :: y => Nat.blt a b || (Nat.beq a b && natLess x y)

def astrOp (op : BinOp) (x y : List Nat) : Option AV :=
  match op with
  | .add => bif Nat.blt (x.length + y.length) 9223372036854775808 then some (.str (x ++ y)) else none
  | .eql => some (.bool (lbeq Nat.beq x y))
  | .neq => some (.bool (!lbeq Nat.beq x y))
  | .lss => some (.bool (natLess x y))
  | .leq => some (.bool (natLess x y || lbeq Nat.beq x y))
  | .gtr => some (.bool (!(natLess x y || lbeq Nat.beq x y)))
  | .geq => some (.bool (!natLess x y))
  | _ => none

/-- the value of an Int, worked out -/
def forceI {α : Type} (n : Int) (k : Int → α) : α :=
  match n with
  | .ofNat m => (match m with | 0 => k (.ofNat 0) | j + 1 => k (.ofNat (j + 1)))
  | .negSucc m => (match m with | 0 => k (.negSucc 0) | j + 1 => k (.negSucc (j + 1)))
def mkInt (k : IntKind) (n : Int) : Option AV := forceI n fun m => some (.int k m)
def forceB {α : Type} (b : Bool) (k : Bool → α) : α := match b with | true => k true | false => k false
def mkBool (b : Bool) : Option AV := forceB b fun b => some (.bool b)

def aintOp (op : BinOp) (k : IntKind) (a b : Int) : Option AV :=
  match op with
  | .add => mkInt k (k.wrap (a + b))
  | .sub => mkInt k (k.wrap (a - b))
  | .mul => mkInt k (k.wrap (a * b))
  | .quo => bif decide (b = 0) then none else mkInt k (k.wrap (a.tdiv b))
  | .rem => bif decide (b = 0) then none else mkInt k (a.tmod b)
  | .and => mkInt k (k.wrap (BitVec.ofInt k.bits a &&& BitVec.ofInt k.bits b).toNat)
  | .or => mkInt k (k.wrap (BitVec.ofInt k.bits a ||| BitVec.ofInt k.bits b).toNat)
  | .xor => mkInt k (k.wrap (BitVec.ofInt k.bits a ^^^ BitVec.ofInt k.bits b).toNat)
  | .andNot => mkInt k (k.wrap (BitVec.ofInt k.bits a &&& ~~~BitVec.ofInt k.bits b).toNat)
  | .eql => mkBool (intBeq a b)
  | .neq => mkBool (!intBeq a b)
  | .lss => mkBool (decide (a < b))
  | .leq => mkBool (decide (a ≤ b))
  | .gtr => mkBool (decide (b < a))
  | .geq => mkBool (decide (b ≤ a))
  | _ => none

def abin (op : BinOp) (t : TypeId) (x y : Operand) (a b : AV) : Option AV :=
  match op, a, b with
  | .shl, .int k a, .int _ b => bif decide (b < 0) then none else mkInt k (k.wrap (a * 2 ^ (min b.toNat k.bits)))
  | .shr, .int k a, .int _ b => bif decide (b < 0) then none else mkInt k (a.fdiv (2 ^ (min b.toNat k.bits)))
  | op, .int k a, .int k' b => bif decide (k = k') then aintOp op k a b else none
  | op, .str a, .str b => astrOp op a b
  | .eql, a, b => bif aguard P .eql t x y a b then (match aeq P 10000 t a b with | some r => some (.bool r) | none => none) else none
  | .neq, a, b => bif aguard P .neq t x y a b then (match aeq P 10000 t a b with | some r => some (.bool (!r)) | none => none) else none
  | _, _, _ => none

def aun (op : UnOp) (a : AV) : Option AV :=
  match op, a with
  | .neg, .int k n => mkInt k (k.wrap (0 - n))
  | .xor, .int k n => mkInt k (k.wrap (BitVec.ofInt k.bits (if k.signed then -1 else k.max) ^^^ BitVec.ofInt k.bits n).toNat)
  | .not, .bool b => some (.bool (!b))
  | _, _ => none

def ofBytes : List AV → Option (List Nat)
  | [] => some []
  | .int .u8 n :: l => match ofBytes l with
    | some r => some ((n.toNat % 256) :: r)
    | none => none
  | _ :: _ => none
def toBytes (s : List Nat) : List AV := s.map fun b => AV.int .u8 (.ofNat b)

/-- the cells of the first n elements of what is copied, or appended -/
def afirst (s : Sto) (k n : Nat) : AV → Option (List AV)
  | .sl id g off len _ => bif Nat.ble n len then match s.get id with
      | some (.cells g' m c) => bif Nat.beq g g' && Nat.ble (off + n * k) m then c.row off (n * k) else none
      | _ => none
    else none
  | .nils => bif Nat.beq n 0 then some [] else none
  | .fz xs _ => bif Nat.ble n xs.length then
      (let l := (xs.take n).flatMap AV.cells
       bif (xs.take n).all (fun x => Nat.beq x.cells.length k) && l.all AV.isCell then some l else none)
    else none
  | .str b => bif Nat.ble n b.length && Nat.beq k 1 then some (toBytes (b.take n)) else none
  | _ => none
def alen : AV → Option Nat
  | .sl _ _ _ len _ => some len
  | .nils => some 0
  | .fz xs _ => some xs.length
  | .str s => some s.length
  | _ => none

def aconv (s : Sto) (src dst : TypeId) (x : AV) : Option ORes :=
  match P.underlying src, P.underlying dst, x with
  | some _, some (.int k), .int _ n => match mkInt k (k.wrap n) with | some v => some (.val v) | none => none
  | some _, some .string, .str b => some (.val (.str b))
  | some _, some (.slice e), .str b => match P.underlying e with
    | some (.int .u8) => match anew s (toBytes b) with
      | some (id, s') => some (.val' (.sl id 0 0 b.length (.room 1)) s')
      | none => none
    | _ => none
  | some (.slice e), some .string, x => match P.underlying e, alen x with
    | some (.int .u8), some n => match afirst s 1 n x with
      | some l => match ofBytes l with
        | some b => some (.val (.str b))
        | none => none
      | none => none
    | _, _ => none
  | _, _, _ => none

/-- room for so many elements: whatever the capacity that is drawn, the append is let -/
def roomOk (n by_ : Nat) : Bool := Nat.ble ((2 * n + 1024) * by_) (2 ^ 48) && Nat.blt n (2 ^ 62)
def afresh (s : Sto) (k by_ : Nat) (old new : List AV) (len : Nat) : Option ORes :=
  bif roomOk len by_ then match anew s (old ++ new) with
    | some (id, s') => some (.val' (.sl id 0 0 len (.room k)) s')
    | none => none
  else none
def aappend (s : Sto) (t : TypeId) (x y : AV) : Option ORes :=
  match P.underlying t with
  | some (.slice e) => match tsz P e, tbytes P e, tzero P e, alen y with
    | some k, some by_, some z, some n => match afirst s k n y with
      | none => none
      | some new => bif Nat.beq z.cells.length k && new.all AV.isCell then match x with
        | .nils => bif Nat.beq n 0 then some (.val .nils) else afresh s k by_ [] new n
        | .fz xs true => bif Nat.beq n 0 then some (.val x) else match afirst s k xs.length x with
          | some old => afresh s k by_ old new (xs.length + n)
          | none => none
        | .sl id g off len (.is c) => bif Nat.ble (len + n) c then
            match s.get id with
            | some (.cells g' m cs) => bif Nat.beq g g' && Nat.ble (off + c * k) m then some (.val' (.sl id g off (len + n) (.is c)) (s.put id (.cells g' m (cs.lay (off + len * k) new)))) else none
            | _ => none
          else match afirst s k len x with
            | some old => afresh s k by_ old new (len + n)
            | none => none
        | .sl id g off len (.room r) => match s.get id with
          | some (.cells g' m cs) => bif Nat.beq g g' && Nat.beq k r && Nat.beq (off + len * k) m && roomOk (len + n) by_ then
              bif Nat.beq off 0 then some (.val' (.sl id (g' + 1) 0 (len + n) (.room k)) (s.put id (.cells (g' + 1) (m + n * k) (cs.lay m new))))
              else match cs.row off (len * k) with
              | some old => some (.val' (.sl id (g' + 1) 0 (len + n) (.room k)) (s.put id (.cells (g' + 1) ((len + n) * k) (Tr.leaf.lay 0 (old ++ new)))))
              | none => none
            else none
          | _ => none
        | .sl id g off len (.least r c) => bif Nat.ble (len + n) c then
            match s.get id with
            | some (.cells g' m cs) => bif Nat.beq g g' && Nat.beq k r && Nat.ble (off + c * k) m then some (.val' (.sl id g off (len + n) (roomTo k (len + n) c)) (s.put id (.cells g' m (cs.lay (off + len * k) new)))) else none
            | _ => none
          else none
        | _ => none
      else none
    | _, _, _, _ => none
  | _ => none

/-- append(nil, make([]E, n)...) -/
def aappendZ (s : Sto) (t : TypeId) : AV → AV → Option ORes
  | .nils, .int .i64 (.ofNat n) => match P.underlying t with
    | some (.slice e) => match tsz P e, tbytes P e, tzero P e with
      | some k, some by_, some z => bif Nat.blt 0 n && (Nat.beq z.cells.length k && Nat.blt 0 k) then afresh s k by_ [] (repA z.cells n) n else none
      | _, _, _ => none
    | _ => none
  | _, _ => none

/-- clear(s) of a slice -/
def aclear (s : Sto) (t : TypeId) : AV → Option ORes
  | .nils => match P.underlying t with
    | some (.slice _) => some (.val (.tuple []))
    | _ => none
  | .fz [] _ => match P.underlying t with
    | some (.slice _) => some (.val (.tuple []))
    | _ => none
  | .sl _ _ _ 0 _ => match P.underlying t with
    | some (.slice _) => some (.val (.tuple []))
    | _ => none
  | .sl id g off (len + 1) _ => match P.underlying t with
    | some (.slice e) => match tsz P e, tzero P e, s.get id with
      | some k, some z, some (.cells g' m cs) =>
        bif Nat.beq g g' && (Nat.beq z.cells.length k && (Nat.blt 0 k && Nat.ble (off + (len + 1) * k) m)) then some (.val' (.tuple []) (s.put id (.cells g' m (cs.lay off (repA z.cells (len + 1)))))) else none
      | _, _, _ => none
    | _ => none
  | _ => none

def acopy (s : Sto) (t : TypeId) (x y : AV) : Option ORes :=
  match P.underlying t with
  | some (.slice e) => match tsz P e, alen x, alen y with
    | some k, some dn, some sn => match afirst s k (Nat.min sn dn) y with
      | none => none
      | some new => match x with
        | .nils => some (.val (.int .i64 (.ofNat 0)))
        | .sl id g off _ _ => match s.get id with
          | some (.cells g' m cs) => bif Nat.beq g g' && Nat.ble (off + Nat.min sn dn * k) m && new.all AV.isCell then some (.val' (.int .i64 (.ofNat (Nat.min sn dn))) (s.put id (.cells g' m (cs.lay off new)))) else none
          | _ => none
        | _ => none
    | _, _, _ => none
  | _ => none

/-- keys of maps: integers, strings, bools -/
def keyOk (k : TypeDesc) (v : AV) : Bool :=
  match k, v with
  | .int _, .int _ _ | .string, .str _ | .bool, .bool _ => true
  | _, _ => false
def keyEq : AV → AV → Option Bool
  | .int k a, .int k' b => bif decide (k = k') then some (intBeq a b) else none
  | .str a, .str b => some (lbeq Nat.beq a b)
  | .bool a, .bool b => some (a == b)
  | _, _ => none
def findE (k : AV) : List (AV × AV × Nat) → Nat → Option (Option (Nat × AV))
  | [], _ => some none
  | (k', v, _) :: es, i => match keyEq k k' with
    | some true => some (some (i, v))
    | some false => findE k es (i + 1)
    | none => none
def setE : List (AV × AV × Nat) → Nat → AV → AV → List (AV × AV × Nat)
  | [], _, _, _ => []
  | (_, _, b) :: es, 0, k, v => (k, v, b) :: es
  | e :: es, i + 1, k, v => e :: setE es i k v
def delE : List (AV × AV × Nat) → Nat → List (AV × AV × Nat)
  | [], _ => []
  | _ :: es, 0 => es
  | e :: es, i + 1 => e :: delE es i

def amapDesc (t : TypeId) : Option (TypeDesc × TypeId) :=
  match P.underlying t with
  | some (.map k e) => match P.underlying k with
    | some d => some (d, e)
    | none => none
  | _ => none

def alookup (s : Sto) (t : TypeId) (m k : AV) (ok : Bool) : Option AV :=
  match amapDesc P t with
  | some (d, e) => bif keyOk d k then
      match (match m with
        | .nilm => some none
        | .map id => match s.get id with
          | some (.map es _) => findE k es 0
          | _ => none
        | _ => none) with
      | some (some (_, v)) => some (bif ok then .tuple [v, .bool true] else v)
      | some none => match tzero P e with
        | some z => some (bif ok then .tuple [z, .bool false] else z)
        | none => none
      | none => none
    else none
  | none => none

def amapUpdate (s : Sto) (t : TypeId) (m k v : AV) : Option Sto :=
  match amapDesc P t, m with
  | some (d, _), .map id => bif keyOk d k then match s.get id with
      | some (.map es clock) => match findE k es 0 with
        | some (some (i, _)) => some (s.put id (.map (setE es i k v) clock))
        | some none => some (s.put id (.map (es ++ [(k, v, clock)]) (clock + 1)))
        | none => none
      | _ => none
    else none
  | _, _ => none

def adelete (s : Sto) (t : TypeId) (m k : AV) : Option Sto :=
  match amapDesc P t, m with
  | some (d, _), .nilm => bif keyOk d k then some s else none
  | some (d, _), .map id => bif keyOk d k then match s.get id with
      | some (.map es clock) => match findE k es 0 with
        | some (some (i, _)) => some (s.put id (.map (delE es i) clock))
        | some none => some (s.put id (.map es clock))
        | none => none
      | _ => none
    else none
  | _, _ => none

def evals (e : Env) (xs : Array Operand) : List AV := xs.toList.map e.eval

/-! ### methods -/
inductive APl where
  | val (v : AV)
  | var (a : AV)
def APl.get (s : Sto) (t : TypeId) : APl → Option AV
  | .val v => some v
  | .var a => aload P s t a
def afollow (s : Sto) : List FieldStep → TypeId → APl → Option (TypeId × APl)
  | [], t, x => some (t, x)
  | st :: rest, t, x => match P.underlying st.struct with
    | some (.struct fields) => match fields[st.index]? with
      | some f =>
        bif st.deref then match x.get P s t with
          | some a => match afieldAddr P st.struct a st.index with
            | some b => afollow s rest f.type (.var b)
            | none => none
          | none => none
        else match x with
          | .var a => match afieldAddr P st.struct a st.index with
            | some b => afollow s rest f.type (.var b)
            | none => none
          | .val (.agg cs) => match apart P f.type cs f.offset with
            | some v => afollow s rest f.type (.val v)
            | none => none
          | .val _ => none
      | none => none
    | _ => none
def isPtr : AV → Bool
  | .ptr _ _ _ | .pf _ => true
  | _ => false
def areceiver (s : Sto) (xt : TypeId) (x : APl) (pointer : Bool) : Option AV :=
  match P.underlying xt, pointer, x with
  | some (.pointer _), true, x => x.get P s xt
  | some (.pointer elem), false, x => match x.get P s xt with
    | some a => aload P s elem a
    | none => none
  | some _, true, .var a => bif isPtr a then some a else none
  | some _, true, .val _ => none
  | some _, false, x => x.get P s xt
  | none, _, _ => none
def amethod (s : Sto) (t : TypeId) (v : AV) (name : String) : Option (FuncId × AV) :=
  match P.info? t with
  | some i => match i.methods.find? (·.name == name) with
    | some m => match afollow P s m.path.toList t (.val v), m.func with
      | some (xt, x), some (f, pointer) => match areceiver P s xt x pointer with
        | some r => some (f, r)
        | none => none
      | _, _ => none
    | none => none
  | none => none

/-- the function, and the arguments, to which a call of a function value comes; 'yield' is a round -/
inductive ATgt where
  | fn (f : FuncId) (args : List AV)
  | round (l : Nat) (args : List AV)
def atarget (s : Sto) (fv : AV) (args : List AV) : Option ATgt :=
  match fv with
  | .func (.func f) first cap => some (.fn f (first ++ args ++ cap))
  | .func (.yield l) first _ => some (.round l (first ++ args))
  | .func (.method name) first _ => match first ++ args with
    | .iface t v :: rest => match amethod P s t v name with
      | some (f, r) => some (.fn f (r :: rest))
      | none => none
    | _ => none
  | .func (.methodOf t name) first _ => match P.underlying t, first ++ args with
    | some (.interface _), .iface t' v :: rest => match amethod P s t' v name with
      | some (f, r) => some (.fn f (r :: rest))
      | none => none
    | some (.interface _), _ => none
    | some _, v :: rest => match amethod P s t v name with
      | some (f, r) => some (.fn f (r :: rest))
      | none => none
    | _, _ => none
  | .func (.via t path f pointer) first _ => match first ++ args with
    | x :: rest => match afollow P s path.toList t (.val x) with
      | some (xt, x) => match areceiver P s xt x pointer with
        | some r => some (.fn f (r :: rest))
        | none => none
      | none => none
    | [] => none
  | _ => none

def ofCall (s : Sto) : Option (CRes × ARec) → Option ORes
  | some (.ret v none, _) => some (.val v)
  | some (.ret v (some s'), _) => some (.val' v s')
  | some (.pan v none, _) => some (.pan v s)
  | some (.pan v (some s'), _) => some (.pan v s')
  | none => none

def valO : Option AV → Option ORes
  | some v => some (.val v)
  | none => none
def skipO : Option Sto → Option ORes
  | some s => some (.val' .undef s)
  | none => none

def aminmax (mx : Bool) : AV → List AV → Option AV
  | a, [] => some a
  | .int k a, .int k' b :: rest => bif decide (k = k') then (forceI (bif mx then (if b > a then b else a) else (if b < a then b else a)) fun c => aminmax mx (.int k c) rest) else none
  | _, _ :: _ => none
def aminmaxL (mx : Bool) : List AV → Option AV
  | [] => none
  | a :: l => aminmax mx a l

def amissing (want : Array (String × TypeId)) (got : Array Method) : Bool := (Instr.missingMethod want got).isSome

def abuiltin (s : Sto) (b : Builtin) (ts : Array TypeId) (l : List AV) : Option ORes :=
  match b with
  | .len => match (match ts[0]? with | some t => P.underlying t | none => none), l with
    | some .string, [.str s] => some (.val (.int .i64 (.ofNat s.length)))
    | some (.slice _), [.str _] => none
    | some (.slice _), [x] => match alen x with
      | some n => some (.val (.int .i64 (.ofNat n)))
      | none => none
    | some (.array n _), [_] => some (.val (.int .i64 (.ofNat n)))
    | some (.map _ _), [.nilm] => some (.val (.int .i64 0))
    | some (.map _ _), [.map id] => match s.get id with
      | some (.map es _) => some (.val (.int .i64 (.ofNat es.length)))
      | _ => none
    | _, _ => none
  | .append => match ts.toList, l with
    | [t, u], [x, y] => match P.underlying u with
      | some (.int _) => aappendZ P s t x y
      | some _ => aappend P s t x y
      | none => none
    | _, _ => none
  | .copy => match ts[0]?, l with
    | some t, [x, y] => acopy P s t x y
    | _, _ => none
  | .delete => match ts[0]?, l with
    | some t, [m, k] => (match adelete P s t m k with | some s => some (.val' (.tuple []) s) | none => none)
    | _, _ => none
  | .min => valO (aminmaxL false l)
  | .max => valO (aminmaxL true l)
  | .recover => some .recov
  | .panic => match l with
    | [.iface t v] => some (.pan (.iface t v) s)
    | _ => none
  | .cap => match (match ts[0]? with | some t => P.underlying t | none => none), l with
    | some (.slice _), [.nils] => some (.val (.int .i64 0))
    | some (.slice _), [.sl _ _ _ _ (.is c)] => some (.val (.int .i64 (.ofNat c)))
    | some (.slice _), [.fz xs true] => some (.val (.int .i64 (.ofNat xs.length)))
    | _, _ => none
  | .clear => match ts[0]?, l with
    | some t, [x] => aclear P s t x
    | _, _ => none
  | _ => none

def dop (call : CallT) (o : Oper) (e : Env) : Option ORes :=
  match o.op with
  | .move x | .assign x => some (.val (e.eval x))
  | .pick c a b => match e.eval c with
    | .bool true => some (.val (e.eval a))
    | .bool false => some (.val (e.eval b))
    | _ => none
  | .alloc t => match tzero P t with
    | some z => match anew e.s z.cells with
      | some (id, s) => some (.val' (.ptr id 0 0) s)
      | none => none
    | none => none
  | .box _ x => match e.eval x with
    | .top => none
    | v => match anew e.s v.cells with
      | some (id, s) => some (.val' (.ptr id 0 0) s)
      | none => none
  | .build t parts => valO (abuild P t (parts.toList.map fun p => (p.1, e.eval p.2)))
  | .buildSlice t len parts => match P.underlying t with
    | some (.slice el) => match tsz P el with
      | some k => bif Nat.ble (len * k) (2 ^ 24) then
          match (bif Nat.beq (len * k) 0 then some [] else match tzero P el with | some z => some (repA z.cells len) | none => none) with
          | some zs => bif Nat.beq zs.length (len * k) then
              match fillA (fun i => some (i * k, k)) zs (parts.toList.map fun p => (p.1, e.eval p.2)) with
              | some cs => match anew e.s cs with
                | some (id, s) => some (.val' (.sl id 0 0 len (.is len)) s)
                | none => none
              | none => none
            else none
          | none => none
        else none
      | none => none
    | _ => none
  | .load t a => valO (aload P e.s t (e.eval a))
  | .store t a x => skipO (astore P e.s t (e.eval a) (e.eval x))
  | .nilCheck x => match e.eval x with
    | .ptr i g o => some (.val (.ptr i g o))
    | .pf v => some (.val (.pf v))
    | .func (.func f) a c => some (.val (.func (.func f) a c))
    | .iface t v => some (.val (.iface t v))
    | _ => none
  | .binOp op t x y _ => valO (abin P op t x y (e.eval x) (e.eval y))
  | .unOp op _ x => valO (aun op (e.eval x))
  | .convert src dst x => aconv P e.s src dst (e.eval x)
  | .sliceToArrayPointer arr x => match P.underlying arr, e.eval x with
    | some (.array n _), .sl id g off len _ => bif Nat.ble n len then some (.val (.ptr id g off)) else none
    | _, _ => none
  | .makeInterface t x => match P.underlying t with
    | some (.interface _) => none
    | some _ => some (.val (.iface t (e.eval x)))
    | none => none
  | .makeFunc fn first cap => match fn with
    | .yield _ => none
    | fn => some (.val (.func fn (evals e first) (evals e cap)))
  | .makeMap t r => match (match r with | none => some true | some h => match P.underlying t, e.eval h with | some (.map _ _), .int _ _ => some true | _, _ => none) with
    | some _ => some (.val' (.map e.s.n) (e.s.push (.map [] 0)))
    | none => none
  | .makeSlice t l c => match P.underlying t, e.eval l, e.eval c with
    | some (.slice el), .int _ (.ofNat l), .int _ (.ofNat c) => match tsz P el, tbytes P el, tzero P el with
      | some k, some by_, some z => bif Nat.ble l c && Nat.ble (by_ * c) (2 ^ 47) && Nat.ble c (2 ^ 62) && Nat.beq z.cells.length k then
          match anew e.s (repA z.cells c) with
          | some (id, s) => some (.val' (.sl id 0 0 l (.is c)) s)
          | none => none
        else none
      | _, _, _ => none
    | _, _, _ => none
  | .slice t x lo hi mx => valO (aslice P t (e.eval x) (lo.map e.eval) (hi.map e.eval) (mx.map e.eval))
  | .fieldAddr t x f => valO (afieldAddr P t (e.eval x) f)
  | .field t x f => valO (afield P t (e.eval x) f)
  | .indexAddr t x i => valO (aindexAddr P t (e.eval x) (e.eval i))
  | .index t x i => valO (aindex P t (e.eval x) (e.eval i))
  | .lookup t m k ok => valO (alookup P e.s t (e.eval m) (e.eval k) ok)
  | .mapUpdate t m k x | .insert t m k x => skipO (amapUpdate P e.s t (e.eval m) (e.eval k) (e.eval x))
  | .range t x => match P.underlying t, e.eval x with
    | some .string, .str b => some (.val' (.ptr e.s.n 0 0) (e.s.push (.siter b 0)))
    | _, _ => none
  | .typeAssert x _ t ok => match P.underlying t, e.eval x with
    | some (.interface _), .nili => bif ok then (match tzero P t with | some z => some (.val (.tuple [z, .bool false])) | none => none) else none
    | some (.interface want), .iface d v => match P.info? d with
      | some i => bif amissing want i.methods then (bif ok then (match tzero P t with | some z => some (.val (.tuple [z, .bool false])) | none => none) else none)
          else some (.val (bif ok then .tuple [.iface d v, .bool true] else .iface d v))
      | none => none
    | some _, .nili => bif ok then (match tzero P t with | some z => some (.val (.tuple [z, .bool false])) | none => none) else none
    | some _, .iface d v => bif Nat.beq d t then some (.val (bif ok then .tuple [v, .bool true] else v))
        else bif ok then (match tzero P t with | some z => some (.val (.tuple [z, .bool false])) | none => none) else none
    | _, _ => none
  | .extract x i => match e.eval x with
    | .tuple vs => valO vs[i]?
    | _ => none
  | .call c => match c.callee with
    | .builtin b => abuiltin P e.s b c.argTypes (evals e c.args)
    | .value f => ofCall e.s (call (e.eval f) (evals e c.args) e.s .no)
    | .invoke recv name => ofCall e.s (call (.func (.method name) [e.eval recv] []) (evals e c.args) e.s .no)
  | .defer c => match c.callee, e.ro with
    | .value f, none => match e.eval f with
      | .func fn a b => some (.defer (.call (.func fn a b) (evals e c.args)))
      | _ => none
    | _, _ => none
  | .panic x => match e.eval x with
    | .iface t v => some (.pan (.iface t v) e.s)
    | _ => none
  | _ => none
end ops

/-- all numbers in a value are less than n -/
def AV.under (n : Nat) : Nat → AV → Bool
  | 0, _ => false
  | d + 1, v => match v with
    | .top | .bool _ | .int _ _ | .str _ | .nilp | .nils | .nilm | .nilf | .nili => true
    | .ptr i _ _ | .sl i _ _ _ _ | .map i => Nat.blt i n
    | .pf v | .iface _ v => v.under n d
    | .fz l _ | .agg l | .tuple l => l.all (AV.under n d)
    | .func f a c => (match f with | .yield l => Nat.blt l n | _ => true) && a.all (AV.under n d) && c.all (AV.under n d)

/-! ### regions -/
/-- is an operation wanted? -/
def awanted (ops : List Oper) (o : Oper) (e : Env) : Option Bool :=
  match o.guard with
  | none => some true
  | some (j, want) => match (match ops[j]? with | some g => g.dst | none => none) with
    | none => some false
    | some d => match e.t.get d with
      | some (.bool b) => some (b == want)
      | some (.tuple _) => some false
      | _ => none

def dops (P : Program) (call : CallT) (ops : List Oper) : List Oper → Env → Option (Ex × Env)
  | [], e => some (.normal, e)
  | o :: rest, e => match awanted ops o e with
    | none => none
    | some false => match e.put o.dst .undef with
      | some e' => dops P call ops rest e'
      | none => none
    | some true => match dop P call o e with
      | none => none
      | some (.val v) => match e.put o.dst v with
        | some e' => dops P call ops rest e'
        | none => none
      | some (.val' v s) => match (e.setS s).put o.dst v with
        | some e' => dops P call ops rest e'
        | none => none
      | some (.pan v s) => some (.panic v, { e with s := s })
      | some (.defer d) => match (e.setDs (d :: e.ds)).put o.dst .undef with
        | some e' => dops P call ops rest e'
        | none => none
      | some .recov => match e.ro, e.r with
        | none, .pan v => match (e.setR (.recd v)).put o.dst v with
          | some e' => dops P call ops rest e'
          | none => none
        | none, _ => match e.put o.dst .nili with
          | some e' => dops P call ops rest e'
          | none => none
        | some _, _ => none

/-! A region that draws its order: it is run in the text's order, and it is looked whether another order could come to something else. -/
/-- of each operation those that come before it in every order, as bits -/
def ancOf (acc : List Nat) (o : Oper) : Nat :=
  o.after.toList.foldl (fun m e => bif Region.binds .any e then m ||| (2 ^ e.on ||| acc.getD e.on 0) else m) 0
def ancsGo : List Oper → List Nat → List Nat
  | [], acc => acc
  | o :: rest, acc => ancsGo rest (acc ++ [ancOf acc o])
def ancs (ops : List Oper) : List Nat := ancsGo ops []

def onames (ops : List Oper) (o : Oper) : List Nat :=
  o.dst.toList ++ (o.op.operands.toList.filterMap fun | .tmp t => some t | _ => none) ++
    (match o.guard with | some (j, _) => (match ops[j]? with | some g => g.dst.toList | none => []) | none => [])
def writes (o : Oper) (l : List Nat) : Bool := match o.dst with | some d => l.elem d | none => false

/-- what one operation writes that another one names: they come in one order -/
def pairOk (ops : List Oper) (as : List Nat) (i : Nat) (oi : Oper) (j : Nat) (oj : Oper) : Bool :=
  !(writes oi (onames ops oj) || writes oj (onames ops oi)) || (as.getD j 0).testBit i
def pairsOk (ops : List Oper) (as : List Nat) : List Oper → Nat → Bool
  | [], _ => true
  | o :: rest, i => ((rest.zipIdx (i + 1)).all fun p => pairOk ops as i o p.2 p.1) && pairsOk ops as rest (i + 1)
def edgesOk (ops : List Oper) : Bool := ops.zipIdx.all fun p => p.1.after.toList.all fun e => !Region.binds .any e || Nat.blt e.on p.2
def noSelect (ops : List Oper) : Bool := ops.all fun o => match o.op with | .select .. => false | _ => true
def drawOk (ops : List Oper) : Bool := noSelect ops && edgesOk ops && pairsOk ops (ancs ops) ops 0

/-- operations that ask nothing of the store -/
def pureOp : Op → Bool
  | .move _ | .assign _ | .pick _ _ _ | .build _ _ | .nilCheck _ | .binOp _ _ _ _ _ | .unOp _ _ _ | .sliceToArrayPointer _ _ | .makeInterface _ _
  | .makeFunc _ _ _ | .slice _ _ _ _ _ | .fieldAddr _ _ _ | .field _ _ _ | .indexAddr _ _ _ | .index _ _ _ | .typeAssert _ _ _ _ | .extract _ _ => true
  | _ => false

/-- operations that lay one new object, and ask nothing of the store -/
def newOp : Op → Bool
  | .alloc _ | .box _ _ | .buildSlice _ _ _ | .makeMap _ _ | .makeSlice _ _ _ => true
  | _ => false

/-- a row of the trace: the operation, what was there before it, what it came to, whether it ran, and whether the store turned -/
structure TrE where
  i : Nat
  o : Oper
  e : Env
  v : AV
  run : Bool
  chg : Bool
def TrE.isNew (x : TrE) : Bool := x.chg && newOp x.o.op
def TrE.isChg (x : TrE) : Bool := x.chg && !newOp x.o.op

/-- the trace; the last environment; a panic, if the last operation of the trace is one: its value and its store -/
abbrev TrR := List TrE × Env × Option (AV × Sto)
def trCons (x : TrE) : Option TrR → Option TrR
  | some (l, f, p) => some (x :: l, f, p)
  | none => none

def dtr (P : Program) (call : CallT) (ops : List Oper) : List Oper → Nat → Env → Option TrR
  | [], _, e => some ([], e, none)
  | o :: rest, i, e => match awanted ops o e with
    | none => none
    | some false => match e.put o.dst .undef with
      | some e' => trCons { i, o, e, v := .undef, run := false, chg := false } (dtr P call ops rest (i + 1) e')
      | none => none
    | some true => match dop P call o e with
      | some (.val v) => match e.put o.dst v with
        | some e' => trCons { i, o, e, v, run := true, chg := false } (dtr P call ops rest (i + 1) e')
        | none => none
      | some (.val' v s) => match (e.setS s).put o.dst v with
        | some e' => trCons { i, o, e, v, run := true, chg := true } (dtr P call ops rest (i + 1) e')
        | none => none
      | some (.pan v s) => some ([{ i, o, e, v, run := true, chg := true }], { e with s := s }, some (v, s))
      | _ => none

/-- the stores before each operation that turned it -/
def trStores : List TrE → List Sto
  | [] => []
  | x :: l => bif x.isChg then x.e.s :: trStores l else trStores l
def chgs (l : List TrE) : List Nat := (l.filter TrE.isChg).map (·.i)
/-- the operations that laid new objects, and the objects' numbers -/
def news (l : List TrE) : List (Nat × Nat) := (l.filter TrE.isNew).map fun x => (x.i, x.e.s.n)
def chainOk (as : List Nat) : List Nat → Bool
  | [] => true
  | [_] => true
  | c :: d :: rest => (as.getD d 0).testBit c && chainOk as (d :: rest)
def newsOk (as : List Nat) (ns : List (Nat × Nat)) (cs : List Nat) : Bool :=
  cs.all fun c => ns.all fun n => Nat.blt c n.1 || (as.getD c 0).testBit n.1
def isVal (v : AV) : Option ORes → Bool
  | some (.val w) => AV.beq 10000 v w
  | _ => false
/-- a store without the new objects of operations that do not come before operation i -/
def without (as : List Nat) (i : Nat) : List (Nat × Nat) → Sto → Sto
  | [], s => s
  | n :: ns, s => bif (as.getD i 0).testBit n.1 then without as i ns s else without as i ns { s with o := s.o.del n.2 }
/-- at each store at which an operation could come: the same value. cs: those that turn the store; ss: the store before each of them, and the last one -/
def rereads (P : Program) (call : CallT) (n : Nat) (as : List Nat) (ns : List (Nat × Nat)) (x : TrE) : List Nat → List Sto → Bool
  | [], [s] => isVal x.v (dop P call x.o { x.e with s := { without as x.i ns s with n := n } })
  | c :: cs, s :: ss =>
    -- the store before c: it could come there, unless c comes before it
    (bif (as.getD x.i 0).testBit c then true else isVal x.v (dop P call x.o { x.e with s := { without as x.i ns s with n := n } })) &&
    -- behind c: unless it comes before c
    (bif (as.getD c 0).testBit x.i then true else rereads P call n as ns x cs ss)
  | _, _ => false
/-- an object that was there before the region, or was laid by an operation that comes before operation i in every order -/
def keptY (n0 : Nat) (as : List Nat) (ns : List (Nat × Nat)) (i id : Nat) : Prop := id < n0 ∨ ∃ k, (k, id) ∈ ns ∧ (as.getD i 0).testBit k = true
/-- in one order with all that turn the store, and the same value in every store that has the objects as they were -/
def Stable (P : Program) (call : CallT) (Y : Nat → Prop) (x : TrE) : Prop := ∀ s' : Sto, (∀ id, Y id → s'.get id = x.e.s.get id) → dop P call x.o { x.e with s := s' } = some (.val x.v)
def stableB (P : Program) (call : CallT) (as : List Nat) (n0 : Nat) (ns : List (Nat × Nat)) (cs : List Nat) (x : TrE) : Bool :=
  (cs.all fun c => (as.getD x.i 0).testBit c || (as.getD c 0).testBit x.i) && @decide (Stable P call (keptY n0 as ns x.i) x) (Classical.propDecidable _)
def agreeB (m : Nat) (s s0 : Sto) : Prop := ∀ id, id < m → s.get id = s0.get id
/-- the stores before what turns the store, up to where only what comes behind operation i is left, have the first m objects as they were -/
def keptTo (as : List Nat) (i m : Nat) (s0 : Sto) : List Nat → List Sto → Prop
  | [], ss => ∀ s ∈ ss, agreeB m s s0
  | c :: cs, s :: ss => agreeB m s s0 ∧ ((∀ c' ∈ c :: cs, (as.getD c' 0).testBit i = true) ∨ keptTo as i m s0 cs ss)
  | _ :: _, [] => False
/-- the first m objects stay as they are in the region, until only what comes behind is left, and what is read is there: in any order -/
def stableC (P : Program) (call : CallT) (as : List Nat) (n0 : Nat) (cs : List Nat) (ss : List Sto) (x : TrE) : Bool :=
  @decide (∃ m, m ≤ n0 ∧ keptTo as x.i m x.e.s cs ss ∧ Stable P call (fun id => id < m) x) (Classical.propDecidable _)
/-- in one order with all that turn the store or lay new objects: it comes to the same store -/
def ordB (as : List Nat) (ns : List (Nat × Nat)) (cs : List Nat) (x : TrE) : Bool :=
  (cs.all fun c => (as.getD x.i 0).testBit c || (as.getD c 0).testBit x.i) && ns.all fun n => (as.getD x.i 0).testBit n.1 || (as.getD n.1 0).testBit x.i
def readsOk (P : Program) (call : CallT) (n n0 : Nat) (as : List Nat) (ns : List (Nat × Nat)) (cs : List Nat) (ss : List Sto) : List TrE → Bool
  | [] => true
  | x :: l => (x.chg || !x.run || pureOp x.o.op || ordB as ns cs x || rereads P call n as ns x cs ss || stableB P call as n0 ns cs x || stableC P call as n0 cs ss x) && readsOk P call n n0 as ns cs ss l

/-- all that read come to the same, wherever they come -/
def readsAll (P : Program) (call : CallT) (n n0 : Nat) (as : List Nat) (l : List TrE) (last : Sto) : Bool := match chgs l, news l with
  | [], [] => true
  | _, _ => readsOk P call n n0 as (news l) (chgs l) (trStores l ++ [last]) l

/-- operations that turn the store name nothing that is laid behind them -/
def unb (n : Nat) (v : AV) : Bool := v.under n 100 || @decide (∃ d, v.under n d = true) (Classical.propDecidable _)
def chgsUnder (l : List TrE) : Bool := l.all fun x => !x.chg || (x.o.op.operands.toList.all fun y => unb x.e.s.n (x.e.eval y))

/-- the store only grows -/
def growOk : List TrE → Nat → Bool
  | [], _ => true
  | [x], n => Nat.ble x.e.s.n n
  | x :: y :: l, n => Nat.ble x.e.s.n y.e.s.n && growOk (y :: l) n

/-- what the region writes is not known -/
def forget (e : Env) : List Oper → Env
  | [] => e
  | o :: rest => match o.dst with
    | some d => forget { e with t := e.t.del d } rest
    | none => forget e rest
/-- all operations behind operation c come behind it in every order -/
def lastOk (as : List Nat) (c : Nat) : List Oper → Nat → Bool
  | [], _ => true
  | _ :: rest, i => (!Nat.blt c i || (as.getD i 0).testBit c) && lastOk as c rest (i + 1)

def ddraw (P : Program) (call : CallT) (ops : List Oper) (e : Env) : Option (Ex × Env) :=
  match dtr P call ops ops 0 e with
  | none => none
  | some (l, f, p) =>
    let as := ancs ops
    let cs := chgs l
    let ns := news l
    bif P.follows .mixedOrders && drawOk ops && chainOk as cs && newsOk as ns cs && growOk l f.s.n && chgsUnder l && readsAll P call f.s.n e.s.n as l f.s then
      match p with
      | none => some (.normal, f)
      | some (v, s) => bif lastOk as (l.length - 1) ops 0 then some (.panic v, forget { e with s := s } ops) else none
    else none

def dregion (P : Program) (call : CallT) (ops : List Oper) (draw : Bool) (e : Env) : Option (Ex × Env) :=
  bif draw then ddraw P call ops e else dops P call ops ops e

/-! ### code -/
def loopGo (f : Env → Option (Ex × Env)) : Nat → Env → Option (Ex × Env)
  | 0, _ => none
  | n + 1, e => match f e with
    | some (.normal, e') => loopGo f n e'
    | r => r

def drangeEnd (e : Env) (ds : List ADef) (lid : Nat) (s : Sto) : Option (Ex × Env) :=
  match s.get lid with
  | some (.loop st pend fn nt t ps a b d) => match st with
    | .busy => none
    | _ =>
      let e' : Env := { e with s := s.put lid (.loop .exhausted pend fn nt t ps a b d), ds := ds }
      match pend with
      | none => some (.normal, e')
      | some .ret => some (.ret, e')
      | some (.exit id) => some (.exit id, e')
      | some _ => none
  | _ => none

def drange (call : CallT) (f : Operand) (params : Array Tmp) (assign body : Code) (e : Env) : Option (Ex × Env) :=
  match (match e.ro with
    | none => some (e.s.push (.defs (some [])), e.s.n, ADef.collected e.s.n :: e.ds)
    | some l => match e.s.get l with
      | some (.loop _ _ _ _ _ _ _ _ d) => some (e.s, d, e.ds)
      | _ => none) with
  | none => none
  | some (s1, d, ds) =>
    let s2 := s1.push (.loop .ready none e.fn e.nt e.t params.toList assign body d)
    match call (e.eval f) [.func (.yield s1.n) [] []] s2 .no with
    | some (.ret _ so, _) => drangeEnd e ds s1.n (match so with | some s => s | none => s2)
    | some (.pan v so, _) => some (.panic v, { e with s := (match so with | some s => s | none => s2), ds := ds })
    | none => none

def dcode (P : Program) (call : CallT) (n : Nat) : Code → Env → Option (Ex × Env)
  | .skip, e => some (.normal, e)
  | .label _, e => some (.normal, e)
  | .region _ ops draw, e => dregion P call ops.toList draw e
  | .seq a b, e => match dcode P call n a e with
    | some (.normal, e') => dcode P call n b e'
    | r => r
  | .cond c x y, e => match e.eval c with
    | .bool true => dcode P call n x e
    | .bool false => dcode P call n y e
    | _ => none
  | .block id c, e => match dcode P call n c e with
    | some (.exit i, e') => bif Nat.beq i id then some (.normal, e') else some (.exit i, e')
    | r => r
  | .loop c, e => loopGo (dcode P call n c) n e
  | .scope c, e => match dcode P call n c e with
    | some (.goto _, _) => none
    | r => r
  | .exit id, e => some (.exit id, e)
  | .ret, e => some (.ret, e)
  | .rangeFunc f ps a b, e => drange call f ps a b e
  | .goto _, _ => none
  | .refuse _, _ => none

/-! ### calls -/
def dresults (P : Program) (e : Env) : List ResultVar → Option (List AV)
  | [] => some []
  | .tmp t :: l => match dresults P e l with
    | some r => some ((match e.t.get t with | some v => v | none => .top) :: r)
    | none => none
  | .cell a t :: l => match aload P e.s t (match e.t.get a with | some v => v | none => .top) with
    | some v => match dresults P e l with
      | some r => some (v :: r)
      | none => none
    | none => none

def runder (n : Nat) : ARec → Bool
  | .no => true
  | .pan v | .recd v => v.under n 100
def dclose (s : Sto) (v : AV) (e : Env) : Option Sto :=
  bif Nat.ble s.n e.s.low && (v.under s.n 100 && runder s.n e.r) then none else some { e.s with low := Nat.min s.low e.s.low }

def isYield : AV → Bool
  | .func (.yield _) _ _ => true
  | _ => false
/-- how a body is left -/
inductive LRes where
  | ret (v : AV)
  | pan (v : AV)
def dleave (P : Program) (call : CallT) (fn : Func) : Nat → Option AV → Env → Option (LRes × Env)
  | 0, _, _ => none
  | m + 1, mode, e => match e.ds with
    | [] => match mode with
      | none => match dresults P e fn.results.toList with
        | some [v] => some (.ret v, e)
        | some l => some (.ret (.tuple l), e)
        | none => none
      | some v => some (.pan v, e)
    | .collected id :: ds => match e.s.get id with
      | some (.defs (some l)) => dleave P call fn m mode { e with ds := l ++ ds, s := e.s.put id (.defs none) }
      | _ => none
    | .call fv args :: ds => bif isYield fv then none else match mode with
      | none => match call fv args e.s .no with
        | some (.ret _ so, .no) => dleave P call fn m none { e with ds := ds, s := (match so with | some s => s | none => e.s) }
        | some (.pan v so, .no) => dleave P call fn m (some v) { e with ds := ds, s := (match so with | some s => s | none => e.s) }
        | _ => none
      | some p => match call fv args e.s (.pan p) with
        | some (.ret _ so, .recd _) => dleave P call fn m none { e with ds := ds, s := (match so with | some s => s | none => e.s) }
        | some (.ret _ so, .pan p') => dleave P call fn m (some p') { e with ds := ds, s := (match so with | some s => s | none => e.s) }
        | _ => none
/-- what a call comes to -/
def dfin (s : Sto) : Option (LRes × Env) → Option (CRes × ARec)
  | some (.ret v, e) => some (.ret v (dclose s v e), e.r)
  | some (.pan v, e) => some (.pan v (dclose s v e), e.r)
  | none => none

def okFn (P : Program) (f : FuncId) : Bool := match P.funcs[f]? with
  | some fn => fn.name != "runtime.NumGoroutine" && fn.body.isSome
  | none => false

def dfunc (P : Program) (call : CallT) (n : Nat) (f : FuncId) (args : List AV) (s : Sto) (r : ARec) : Option (CRes × ARec) :=
  bif okFn P f then match P.funcs[f]? with
    | some fn => match fn.body with
      | some c =>
        match dcode P call n c { nt := Nat.max args.length fn.ntmps, ro := none, fn := f, t := Tr.leaf.lay 0 args, ds := [], s := { s with low := s.n }, r := r } with
        | some (.normal, e) => dfin s (dleave P call fn n none e)
        | some (.ret, e) => dfin s (dleave P call fn n none e)
        | some (.panic v, e) => dfin s (dleave P call fn n (some v) e)
        | _ => none
      | none => none
    | none => none
  else none

def layPs (nt : Nat) : Tr AV → List Nat → List AV → Option (Tr AV)
  | t, p :: ps, a :: as => bif Nat.blt p nt then layPs nt (t.set p a) ps as else none
  | t, [], [] => some t
  | _, _, _ => none

def droundEnd (s : Sto) (l : Nat) (jump : Option Code) (e : Env) : Option (CRes × ARec) :=
  match e.s.get l, e.ds with
  | some (.loop _ _ fn nt t ps a b d), [] =>
    some (.ret (.bool jump.isNone) (some { e.s.put l (.loop (bif jump.isNone then .ready else .done) jump fn nt t ps a b d) with low := Nat.min s.low (e.s.put l (.loop .ready none fn nt t ps a b d)).low }), .no)
  | _, _ => none

def dround (P : Program) (call : CallT) (n : Nat) (l : Nat) (args : List AV) (s : Sto) : Option (CRes × ARec) :=
  match s.get l with
  | some (.loop st pend fn nt t ps a b d) => match layPs nt t ps args with
    | some t' => match dcode P call n a { nt := nt, ro := some l, fn := fn, t := t', ds := [], s := { s with low := s.n }, r := .no } with
      | some (.normal, e) => match e.s.get l with
        | some (.loop .ready pend' fn' nt' t'' ps' a' b' d') =>
          match dcode P call n b { e with s := e.s.put l (.loop .busy pend' fn' nt' t'' ps' a' b' d') } with
          | some (.normal, e) => droundEnd s l none e
          | some (.ret, e) => droundEnd s l (some .ret) e
          | some (.exit id, e) => droundEnd s l (some (.exit id)) e
          | some (.panic v, e) => match e.ds with
            | [] => bif okFn P e.fn then some (.pan v (some { e.s with low := Nat.min s.low e.s.low }), .no) else none
            | _ => none
          | _ => none
        | _ => none
      | _ => none
    | none => none
  | _ => none

/-- what is known of calls: of a function with arguments in a store how it ends -/
abbrev Orc := FuncId → List AV → Sto → Option CRes
def oget (O : Orc) (fv : AV) (args : List AV) (s : Sto) (r : ARec) : Option CRes := match r with
  | .no => (match fv with
    | .func (.func g) first cap => O g (first ++ args ++ cap) s
    | _ => none)
  | _ => none

def dcall (P : Program) (O : Orc) : Nat → CallT
  | 0 => fun _ _ _ _ => none
  | n + 1 => fun fv args s r => match oget O fv args s r with
    | some res => some (res, .no)
    | none => match atarget P s fv args with
      | some (.fn f args) => dfunc P (dcall P O n) n f args s r
      | some (.round l args) => (match r with | .no => dround P (dcall P O n) n l args s | _ => none)
      | none => none

/-- a table of calls: a function, its arguments, what it returns -/
abbrev Tab := List (FuncId × List AV × AV)
def tab : Tab → Orc
  | [], _, _, _ => none
  | x :: T, f, args, s => bif Nat.beq x.1 f && lbeq (AV.beq 1000) x.2.1 args then some (.ret x.2.2 none) else tab T f args s

def Sto.empty : Sto := { n := 0, low := 0, o := .leaf }
def drun (P : Program) (O : Orc) (n : Nat) (f : FuncId) (args : List AV) : Option (CRes × ARec) := dfunc P (dcall P O n) n f args .empty .no
/-- the call returns this value, and leaves the store as it was -/
def dval (P : Program) (O : Orc) (n : Nat) (f : FuncId) (args : List AV) (v : AV) : Bool := args.all (AV.under 0 100) && match drun P O n f args with
  | some (.ret w none, .no) => AV.beq 1000 v w
  | _ => false

end
end Go.Abs
