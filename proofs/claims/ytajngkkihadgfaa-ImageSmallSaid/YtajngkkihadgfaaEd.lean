/-
  The abstract machine: operations on values and stores, for a walk by 'simp'.
-/
import Derived.Test.YtajngkkihadgfaaEc
import Derived.IntWalk
set_option linter.unusedVariables false
set_option linter.unusedSimpArgs false
namespace Go.Abs
noncomputable section
def Tr.wr {α:Type} (t:Tr α) (i:Nat) (a:Option α):Tr α:=Tr.setF (i+1) t i a
theorem Tr.setF_succ {α:Type} (f i:Nat) (t:Tr α) (a:Option α):Tr.setF (f+1) t i a=match t with
 | .leaf=>if i=0 then .node a .leaf .leaf else if i%2=1 then .node none (Tr.setF f .leaf (i/2) a) .leaf else .node none .leaf (Tr.setF f .leaf (i/2-1) a)
 | .node v l r=>if i=0 then .node a l r else if i%2=1 then .node v (Tr.setF f l (i/2) a) r else .node v l (Tr.setF f r (i/2-1) a):=by
 have h0:∀ {β:Type} (x y:β),@Bool.rec (fun _=>β) x y (Nat.beq i 0)=if i=0 then y else x:=by
  intro β x y
  cases h:Nat.beq i 0 with
  | true=>simp [Nat.eq_of_beq_eq_true h]
  | false=>simp [Nat.ne_of_beq_eq_false h]
 have h1:∀ {β:Type} (x y:β),@Bool.rec (fun _=>β) x y (Nat.beq (Nat.mod i 2) 1)=if i%2=1 then y else x:=by
  intro β x y
  show @Bool.rec (fun _=>β) x y (Nat.beq (i%2) 1)=_
  cases h:Nat.beq (i%2) 1 with
  | true=>simp [Nat.eq_of_beq_eq_true h]
  | false=>simp [Nat.ne_of_beq_eq_false h]
 cases t with
 | leaf=>exact (h0 _ _).trans (by rw [h1];rfl)
 | node v l r=>exact (h0 _ _).trans (by rw [h1];rfl)
theorem Tr.setF_setF {α:Type}:∀ (f g i:Nat) (t:Tr α) (a b:Option α),i<f->i<g->Tr.setF g (Tr.setF f t i a) i b=Tr.setF g t i b:=by
 intro f
 induction f with
 | zero=>intro g i t a b h;omega
 | succ f ih=>
   intro g i t a b hf hg
   obtain ⟨g,rfl⟩:∃ k,g=k+1:=⟨g-1,by omega⟩
   by_cases h0:i=0
   ·subst h0;cases t<;>simp [Tr.setF_succ]
   ·by_cases h1:i%2=1
    ·cases t with
     | leaf=>simp only [Tr.setF_succ,if_neg h0,if_pos h1];rw [ih g _ _ _ _ (by omega) (by omega)]
     | node v l r=>simp only [Tr.setF_succ,if_neg h0,if_pos h1];rw [ih g _ _ _ _ (by omega) (by omega)]
    ·cases t with
     | leaf=>simp only [Tr.setF_succ,if_neg h0,if_neg h1];rw [ih g _ _ _ _ (by omega) (by omega)]
     | node v l r=>simp only [Tr.setF_succ,if_neg h0,if_neg h1];rw [ih g _ _ _ _ (by omega) (by omega)]
theorem Tr.setF_comm {α:Type}:∀ (f g i j:Nat) (t:Tr α) (a b:Option α),i<f->j<g->i≠j->Tr.setF g (Tr.setF f t i a) j b=Tr.setF f (Tr.setF g t j b) i a:=by
 intro f
 induction f with
 | zero=>intro g i j t a b h;omega
 | succ f ih=>
   intro g i j t a b hf hg hij
   obtain ⟨g,rfl⟩:∃ k,g=k+1:=⟨g-1,by omega⟩
   by_cases hi0:i=0
   ·subst hi0
    have hj0:j≠0:=fun h=>hij h.symm
    by_cases hj1:j%2=1<;>cases t<;>simp [Tr.setF_succ,hj0,hj1]
   ·by_cases hj0:j=0
    ·subst hj0
     by_cases hi1:i%2=1<;>cases t<;>simp [Tr.setF_succ,hi0,hi1]
    ·by_cases hi1:i%2=1<;>by_cases hj1:j%2=1
     ·cases t<;>(simp only [Tr.setF_succ,if_neg hi0,if_pos hi1,if_neg hj0,if_pos hj1];rw [ih g _ _ _ _ _ (by omega) (by omega) (by omega)])
     ·cases t<;>simp only [Tr.setF_succ,if_neg hi0,if_pos hi1,if_neg hj0,if_neg hj1]
     ·cases t<;>simp only [Tr.setF_succ,if_neg hi0,if_neg hi1,if_neg hj0,if_pos hj1]
     ·cases t<;>(simp only [Tr.setF_succ,if_neg hi0,if_neg hi1,if_neg hj0,if_neg hj1];rw [ih g _ _ _ _ _ (by omega) (by omega) (by omega)])
theorem Tr.set_set {α:Type} (t:Tr α) (i:Nat) (a b:α):(t.set i a).set i b=t.set i b:=Tr.setF_setF _ _ _ _ _ _ (by omega) (by omega)
theorem Tr.set_comm {α:Type} (t:Tr α) {i j:Nat} (a b:α) (h:i≠j):(t.set i a).set j b=(t.set j b).set i a:=Tr.setF_comm _ _ _ _ _ _ _ (by omega) (by omega) h
theorem Tr.lay_set_lt {α:Type} (l:List α):∀ (t:Tr α) (k i:Nat) (a:α),i<k->(t.lay k l).set i a=(t.set i a).lay k l:=by
 induction l with
 | nil=>intro t k i a h;rfl
 | cons x l ih=>
   intro t k i a h
   simp only [Tr.lay]
   rw [ih _ _ _ _ (by omega),Tr.set_comm _ _ _ (by omega)]
theorem Tr.lay_set {α:Type} (l:List α):∀ (t:Tr α) (k i:Nat) (a:α),i<l.length->(t.lay k l).set (k+i) a=t.lay k (l.set i a):=by
 induction l with
 | nil=>intro t k i a h;simp at h
 | cons x l ih=>
   intro t k i a h
   cases i with
   | zero=>
     simp only [Tr.lay,List.set_cons_zero,Nat.add_zero]
     rw [Tr.lay_set_lt _ _ _ _ _ (by omega),Tr.set_set]
   | succ i=>
     simp only [Tr.lay,List.set_cons_succ]
     rw [<-ih _ _ _ _ (by simpa using h)]
     congr 1;omega
theorem Tr.lay_append {α:Type} (l m:List α):∀ (t:Tr α) (k:Nat),(t.lay k l).lay (k+l.length) m=t.lay k (l++m):=by
 induction l with
 | nil=>intro t k;rfl
 | cons x l ih=>
   intro t k
   simp only [Tr.lay,List.cons_append,List.length_cons]
   rw [<-ih]
   congr 1;omega
def dL {α:Type} (l:List α) (off:Nat) (m:List α):List α:=l.take off++m++l.drop (off+m.length)
theorem DN {α:Type} (l:List α) (off:Nat):dL l off []=l:=by simp [dL]
theorem uP {α:Type} (l m:List α) (off:Nat) (h:off+m.length<=l.length):(dL l off m).length=l.length:=by
 simp [dL];omega
theorem AC {α:Type} (l m:List α) (off:Nat) (a:α) (h:off+(a::m).length<=l.length):dL l off (a::m)=dL (l.set off a) (off+1) m:=by
 simp only [List.length_cons]at h
 apply List.ext_getElem?
 intro i
 simp only [dL,List.length_cons]
 simp only [List.getElem?_append,List.length_take,List.length_append,List.length_cons,List.getElem?_take,List.getElem?_drop,List.length_set,List.getElem?_set]
 have h1:min off l.length=off:=by omega
 have h2:min (off+1) l.length=off+1:=by omega
 rw [h1,h2]
 by_cases c1:i<off
 ·have:off≠i:=by omega
  simp [c1,show i<off+1 by omega,show i<off+(m.length+1) by omega,show i<off+1+m.length by omega,this]
 ·by_cases c2:i=off
  ·subst c2
   simp [show i<l.length by omega,show i<i+1+m.length by omega]
  ·by_cases c3:i<off+(m.length+1)
   ·obtain ⟨d,rfl⟩:∃ d,i=off+1+d:=⟨i-off-1,by omega⟩
    rw [if_neg c1,if_pos c3,if_neg (show ¬ off+1+d<off+1 by omega),if_pos (show off+1+d<off+1+m.length by omega)]
    simp [show off+1+d-off=d+1 by omega]
   ·have e1:off+(m.length+1)+(i-(off+(m.length+1)))=i:=by omega
    have e2:off+1+m.length+(i-(off+1+m.length))=i:=by omega
    simp [c3,show ¬ i<off+1+m.length by omega,e1,e2,show off≠i by omega]
theorem Tr.lay_lay {α:Type} (m:List α):∀ (l:List α) (off:Nat),off+m.length<=l.length->((Tr.leaf.lay 0 l).lay off m)=Tr.leaf.lay 0 (dL l off m):=by
 induction m with
 | nil=>intro l off _;rw [DN];rfl
 | cons a m ih=>
   intro l off h
   simp only [Tr.lay]
   have h':off+m.length+1<=l.length:=by simpa [Nat.add_assoc] using h
   have:=Tr.lay_set l .leaf 0 off a (by omega)
   rw [Nat.zero_add]at this
   rw [this,ih _ _ (by simp;omega),AC _ _ _ _ h]
theorem Tr.get_row {α:Type} (l:List α) (i:Nat):(Tr.leaf.lay 0 l).get i=l[i]?:=by
 rw [Tr.get_lay]
 by_cases h:i<l.length
 ·simp [h]
 ·rw [if_neg (by omega),List.getElem?_eq_none (by omega)];rfl
theorem Tr.val_lay (l:List AV) (i:Nat):(Tr.leaf.lay 0 l).val i=l[i]?.getD .top:=by rw [Tr.val,Tr.get_row]
theorem Tr.row_lay {α:Type} (l:List α):∀ (k off:Nat),off+k<=l.length->(Tr.leaf.lay 0 l).row off k=some (aG l off k):=by
 intro k
 induction k with
 | zero=>intro off _;simp [Tr.row,aG]
 | succ k ih=>
   intro off h
   simp only [Tr.row,Tr.get_row]
   rw [List.getElem?_eq_getElem (show off<l.length by omega),ih (off+1) (by omega)]
   simp only [aG]
   rw [<-List.getElem_cons_drop (show off<l.length by omega),List.take_succ_cons]
def bE (g:Nat) (cs:List AV):AObj:=.cells g cs.length (Tr.leaf.lay 0 cs)
theorem Sto.get_mk {n low:Nat} {o:Tr AObj} {i:Nat} (h:i<n):(Sto.mk n low o).get i=o.get i:=by rw [Sto.get_eq];exact if_pos h
theorem Sto.put_mk0 {n:Nat} {o:Tr AObj} {i:Nat} {x:AObj}:(Sto.mk n 0 o).put i x=⟨n,0,o.set i x⟩:=by
 simp only [Sto.put]
 have:Nat.blt i 0=false:=by cases h:Nat.blt i 0<;>simp_all
 rw [this];rfl
theorem Tr.get_set_same {α:Type} (t:Tr α) (i:Nat) (a:α):(t.set i a).get i=some a:=by simp [Tr.get_set]
theorem Tr.get_set_ne {α:Type} (t:Tr α) {i j:Nat} (a:α) (h:j≠i):(t.set i a).get j=t.get j:=by simp [Tr.get_set,h]
section
variable {P:Program}
def tyK (P:Program) (t:TypeId):Option (Option Nat):=match zF P t,sZ P t with
 | some true,some n=>some (some n)
 | some false,some 1=>some none
 | _,_=>none
def fR (P:Program) (t:TypeId) (f:Nat):Option (Nat × Option Nat):=match P.underlying t with
 | some (.struct fields)=>match fields[f]? with
   | some fd=>match tyK P fd.type with
     | some x=>(match x with | some 0=>none | _=>some (fd.offset,x))
     | none=>none
   | none=>none
 | _=>none
def rV (P:Program) (t:TypeId):Option Nat:=match P.underlying t with
 | some (.slice e)=>sZ P e
 | _=>none
def NQ (P:Program) (t:TypeId):Option (Nat × Option Nat):=match P.underlying t with
 | some (.array n e)=>(tyK P e).map fun x=>(n,x)
 | _=>none
def apK (P:Program) (t:TypeId):Option (Nat × Nat):=match P.underlying t with
 | some (.slice e)=>match sZ P e,vL P e,bT P e with
   | some k,some b,some z=>bif Nat.beq z.cells.length k then some (k,b) else none
   | _,_,_=>none
 | _=>none
def kE:Option Nat->Nat
 | none=>1
 | some n=>n
theorem nU {t:TypeId} {x:Option Nat} (h:tyK P t=some x):sZ P t=some (kE x)/\zF P t=some x.isSome:=by
 unfold tyK at h
 split at h
 ·rename_i h1 h2;cases h;exact ⟨h2,h1⟩
 ·rename_i h1 h2;cases h;exact ⟨h2,h1⟩
 ·cases h
def XI (x:Option (Option Nat)) (o:Option AObj) (g off:Nat):Option AV:=match x,o with
 | some none,some (.cells g' n c)=>bif Nat.beq g g' then (bif Nat.blt off n then c.get off else none) else none
 | some (some k),some (.cells g' n c)=>bif Nat.beq g g' then (bif Nat.ble (off+k) n then (match c.row off k with | some l=>some (.agg l) | none=>none) else none) else none
 | _,_=>none
theorem XJ {s:Sto} {t:TypeId} {id g off:Nat} {x:Option Nat} (h:tyK P t=some x):fU P s t (.ptr id g off)=XI (some x) (s.get id) g off:=by
 obtain ⟨h1,h2⟩:=nU h
 simp only [fU,h1,h2]
 cases s.get id with
 | none=>cases x<;>rfl
 | some o=>
   cases o with
   | cells g' n c=>cases x<;>rfl
   | _=>cases x<;>rfl
theorem aHs {g off:Nat} {cs:List AV}:XI (some none) (some (bE g cs)) g off=cs[off]?:=by
 simp only [XI,bE,Nat.beq_refl,cond_true,fM,Tr.get_row]
 split
 ·rfl
 ·rename_i h;rw [List.getElem?_eq_none (by omega)]
theorem aHt {g off k:Nat} {cs:List AV} (h:off+k<=cs.length):XI (some (some k)) (some (bE g cs)) g off=some (.agg (aG cs off k)):=by
 have:Nat.ble (off+k) cs.length=true:=by simpa using h
 simp only [XI,bE,Nat.beq_refl,cond_true,this,Tr.row_lay _ _ _ h]
theorem DO {cs:List AV} {off:Nat} {a:AV} (h:off<cs.length):dL cs off [a]=cs.set off a:=by
 rw [AC _ _ _ _ (by simp;omega),DN]
def stK (s:Sto) (x:Option (Option Nat)) (id g off:Nat) (v:AV) (o:Option AObj):Option Sto:=match x,o with
 | some x,some (.cells g' n c)=>bif Nat.beq g g'&&Nat.ble (off+kE x) n&&Nat.beq v.cells.length (kE x)&&v.cells.all AV.isCell then some (s.put id (.cells g' n (c.lay off v.cells))) else none
 | _,_=>none
theorem RD {s:Sto} {t:TypeId} {id g off:Nat} {v:AV} {x:Option Nat} (h:tyK P t=some x):mQ P s t (.ptr id g off) v=stK s (some x) id g off v (s.get id):=by
 obtain ⟨h1,h2⟩:=nU h
 simp only [mQ,h1]
 cases s.get id with
 | none=>rfl
 | some o=>cases o<;>rfl
theorem aHv {s:Sto} {id g off:Nat} {v:AV} {cs:List AV} (hc:v.isCell=true) (hl:off<cs.length):stK s (some none) id g off v (some (bE g cs))=some (s.put id (bE g (cs.set off v))):=by
 have hv:v.cells=[v]:=by cases v<;>first | rfl | cases hc
 have e1:Nat.ble (off+1) cs.length=true:=by simp;omega
 simp only [stK,bE,Nat.beq_refl,kE,e1,hv,List.length_cons,List.length_nil,List.all_cons,List.all_nil,hc,Bool.and_self,cond_true]
 rw [Tr.lay_lay _ _ _ (by simp;omega),DO hl,List.length_set]
theorem aHw {s:Sto} {id g off k:Nat} {vs cs:List AV} (hv:vs.length=k) (hc:vs.all AV.isCell=true) (hl:off+k<=cs.length):stK s (some (some k)) id g off (.agg vs) (some (bE g cs))=some (s.put id (bE g (dL cs off vs))):=by
 subst hv
 have e1:Nat.ble (off+vs.length) cs.length=true:=by simpa using hl
 simp only [stK,bE,Nat.beq_refl,kE,e1,AV.cells,hc,Bool.and_self,cond_true]
 rw [Tr.lay_lay _ _ _ hl,uP _ _ _ hl]
theorem RE {cs vs:List AV} (h:vs.length=cs.length):dL cs 0 vs=vs:=by simp [dL,h]
theorem DP {t:TypeId} {id g o f off:Nat} {x:Option Nat} (h:fR P t f=some (off,x)):bZ P t (.ptr id g o) f=some (.ptr id g (o+off)):=by
 unfold fR at h
 split at h
 ·rename_i fields hu
  split at h
  ·rename_i fd hfd
   split at h
   ·rename_i y hy
    obtain ⟨h1,_⟩:=nU hy
    unfold bZ
    rw [hu]
    simp only [hfd,h1]
    split at h
    ·cases h
    ·rename_i hne
     simp only [Option.some.injEq,Prod.mk.injEq]at h
     obtain ⟨rfl,rfl⟩:=h
     have:∃ m,kE y=m+1:=by
      cases y with
      | none=>exact ⟨0,rfl⟩
      | some n=>cases n with
        | zero=>exact absurd rfl hne
        | succ m=>exact ⟨m,rfl⟩
     obtain ⟨m,hm⟩:=this
     rw [hm]
   ·cases h
  ·cases h
 ·cases h
def ptK (x:Option Nat) (cs:List AV) (off:Nat):Option AV:=match x with
 | none=>cs[off]?
 | some n=>bif Nat.ble (off+n) cs.length then some (.agg (aG cs off n)) else none
theorem tN {t:TypeId} {x:Option Nat} {cs:List AV} {off:Nat} (h:tyK P t=some x):oC P t cs off=ptK x cs off:=by
 obtain ⟨h1,h2⟩:=nU h
 simp only [oC,h1,h2]
 cases x<;>rfl
theorem RF {t:TypeId} {cs:List AV} {f off:Nat} {x:Option Nat} (h:fR P t f=some (off,x)):pQ P t (.agg cs) f=ptK x cs off:=by
 unfold fR at h
 split at h
 ·rename_i fields hu
  split at h
  ·rename_i fd hfd
   split at h
   ·rename_i y hy
    split at h
    ·cases h
    ·simp only [Option.some.injEq,Prod.mk.injEq]at h
     obtain ⟨rfl,rfl⟩:=h
     simp only [pQ,hu,hfd,tN hy]
   ·cases h
  ·cases h
 ·cases h
variable {t:TypeId} {x y:Operand} {k:IntKind} {a b:Int}
theorem BI {a b:Int}:(a==b)=decide (a=b):=by rw [Bool.eq_iff_iff];simp
theorem aCw {n:Int}:IntKind.u16.wrap n=n%65536:=by simp [IntKind.wrap,IntKind.bits,IntKind.signed]
theorem aCx:abin P .add t x y (.int k a) (.int k b)=some (.int k (k.wrap (a+b))):=by simp [abin,iE,dH]
theorem aCy:abin P .sub t x y (.int k a) (.int k b)=some (.int k (k.wrap (a-b))):=by simp [abin,iE,dH]
theorem aCz:abin P .mul t x y (.int k a) (.int k b)=some (.int k (k.wrap (a*b))):=by simp [abin,iE,dH]
theorem aDa (h:b≠0):abin P .quo t x y (.int k a) (.int k b)=some (.int k (k.wrap (a.tdiv b))):=by simp [abin,iE,dH,h]
theorem aDb (h:b≠0):abin P .rem t x y (.int k a) (.int k b)=some (.int k (a.tmod b)):=by simp [abin,iE,dH,h]
theorem aDc:abin P .eql t x y (.int k a) (.int k b)=some (.bool (decide (a=b))):=by simp [abin,iE,lQ,eY,BI]
theorem aDd:abin P .neq t x y (.int k a) (.int k b)=some (.bool (!decide (a=b))):=by simp [abin,iE,lQ,eY,BI]
theorem aDe:abin P .lss t x y (.int k a) (.int k b)=some (.bool (decide (a<b))):=by simp [abin,iE,lQ]
theorem aDf:abin P .leq t x y (.int k a) (.int k b)=some (.bool (decide (a<=b))):=by simp [abin,iE,lQ]
theorem aDg:abin P .gtr t x y (.int k a) (.int k b)=some (.bool (decide (b<a))):=by simp [abin,iE,lQ]
theorem aDh:abin P .geq t x y (.int k a) (.int k b)=some (.bool (decide (b<=a))):=by simp [abin,iE,lQ]
theorem tO:abin P .or t x y (.int k a) (.int k b)=some (.int k (k.wrap (BitVec.ofInt k.bits a ||| BitVec.ofInt k.bits b).toNat)):=by simp [abin,iE,dH]
theorem nV {k':IntKind} (h:¬ b<0):abin P .shl t x y (.int k a) (.int k' b)=some (.int k (k.wrap (a*2 ^ (min b.toNat k.bits)))):=by simp [abin,dH,h]
theorem DQ {k':IntKind} (h:¬ b<0):abin P .shr t x y (.int k a) (.int k' b)=some (.int k (a.fdiv (2 ^ (min b.toNat k.bits)))):=by simp [abin,dH,h]
theorem aHx:aun .neg (.int k a)=some (.int k (k.wrap (0-a))):=by simp [aun,dH]
theorem NR {a b:List Nat}:kX Nat.beq a b=decide (a=b):=by
 induction a generalizing b with
 | nil=>cases b<;>simp [kX]
 | cons x a ih=>
   cases b with
   | nil=>simp [kX]
   | cons y b=>
     simp only [kX,ih]
     cases h:Nat.beq x y with
     | true=>have:=Nat.eq_of_beq_eq_true h;simp [this]
     | false=>have:=Nat.ne_of_beq_eq_false h;simp [this]
theorem eI {a b:List Nat}:abin P .eql t x y (.str a) (.str b)=some (.bool (decide (a=b))):=by simp [abin,zG,NR]
theorem xN {a b:List Nat}:abin P .neq t x y (.str a) (.str b)=some (.bool (!decide (a=b))):=by simp [abin,zG,NR]
theorem JE {a b:List Nat} (h:a.length+b.length<9223372036854775808):abin P .add t x y (.str a) (.str b)=some (.str (a++b)):=by
 have:Nat.blt (a.length+b.length) 9223372036854775808=true:=by simpa using h
 simp [abin,zG,this]
theorem jQ {l:List Nat}:(AV.str l).isCell=true:=rfl
theorem pK {v:AV} (h:v.isCell=true):v.cells=[v]:=by cases v<;>first | rfl | cases h
end
section
variable {P:Program}
def Ok (P:Program) (f:FuncId) (g:List AV->Option AV):Prop:=∀ args v,g args=some v->Returns P f args v
def ent (f:FuncId) (g:List AV->Option AV):kL:=(f,fun args _=>(g args).map fun v=>.ret v none)
theorem Ok.ent {f:FuncId} {g:List AV->Option AV} (h:Ok P f g):eV P (ent f g):=by
 intro args s res hr
 simp only [Go.Abs.ent]at hr
 cases hg:g args with
 | none=>rw [hg]at hr;cases hr
 | some v=>
   rw [hg]at hr
   simp only [Option.map_some,Option.some.injEq]at hr
   subst hr
   exact h args v hg s
theorem ent_same {f:FuncId} {g:List AV->Option AV} {L:List kL} {args:List AV} {s:Sto}:orcL (ent f g::L) f args s=(g args).map fun v=>.ret v none:=tT
theorem nW {f h:FuncId} {g:List AV->Option AV} {L:List kL} {args:List AV} {s:Sto} (hn:h≠f):orcL (ent h g::L) f args s=orcL L f args s:=BJ hn
theorem mF {fn:Func} {f:FuncId} {args:List AV} {s:Sto} {N:Nat} (hn:fn.ntmps=N) (ha:Nat.ble args.length N=true):HA fn f args s=⟨N,none,f,Tr.leaf.lay 0 args,[],⟨s.n,s.n,s.o⟩,.no⟩:=by
 have:Nat.max args.length fn.ntmps=N:=by
  rw [hn]
  have:=Nat.le_of_ble_eq_true ha
  exact Nat.max_eq_right this
 simp only [HA,this]
theorem JF {L:List kL} (hL:∀ x∈L,eV P x) {f:FuncId} {fn:Func} {c:Code} {N:Nat} {rs:List ResultVar} {args:List AV} {v:AV} (hok:okFn P f=true) (hf:P.funcs[f]?=some fn) (hn:fn.ntmps=N) (hr:fn.results=rs.toArray) (hb:fn.body=some c)
 (ha:Nat.ble args.length N=true) (hu:∀ x∈args,Und 0 x) (hv:Und 0 v)
 (h:W P (orcL L) c ⟨N,none,f,Tr.leaf.lay 0 args,[],⟨0,0,.leaf⟩,.no⟩ (sR P rs (fun _ r=>r=v) fun _ _=>False)):Returns P f args v:=by
 refine fS hu (tQ (O:=orcL L) (tU hL) hok hf hb (C:=fun _ r=>r=v) (D:=fun _ _=>False) (fun S r hr=>⟨v,none,rfl,by rw [hr];exact AE (Nat.zero_le _) hv⟩) (fun _ _ h=>h.elim) ?_)
 rw [mF hn ha,hr]
 exact h
theorem FB {L:List kL} (hL:∀ x∈L,eV P x) {f:FuncId} {fn:Func} {c:Code} {N:Nat} {rs:List ResultVar} {args:List AV} {v:AV} (hok:okFn P f=true) (hf:P.funcs[f]?=some fn) (hn:fn.ntmps=N) (hr:fn.results=rs.toArray) (hb:fn.body=some c)
 (ha:Nat.ble args.length N=true) (hu:∀ x∈args,Und 0 x)
 (h:W P (orcL L) c ⟨N,none,f,Tr.leaf.lay 0 args,[],⟨0,0,.leaf⟩,.no⟩ (sR P rs (fun S r=>Frz S 0 r v) fun _ _=>False)):Returns P f args v:=by
 refine fS hu (tQ (O:=orcL L) (tU hL) hok hf hb (C:=fun S r=>Frz S 0 r v) (D:=fun _ _=>False) (fun S r hr=>⟨v,none,rfl,nX (Nat.zero_le _) hr⟩) (fun _ _ h=>h.elim) ?_)
 rw [mF hn ha,hr]
 exact h
end
end
end Go.Abs
