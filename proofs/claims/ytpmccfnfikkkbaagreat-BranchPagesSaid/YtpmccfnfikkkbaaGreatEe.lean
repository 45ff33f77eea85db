/-
  The abstract machine: a walk through a region that draws its order.
-/
import Derived.Test.YtpmccfnfikkkbaaGreatEc
set_option linter.unusedVariables false
set_option linter.unusedSimpArgs false
namespace Go.Abs
noncomputable section
def UnderE (n:Nat) (v:AV):Prop:=∃ d,v.under n d=true
theorem nN {n m:Nat} (h:n<=m):∀ (d k:Nat) (v:AV),d<=k->v.under n d=true->v.under m k=true:=by
 intro d
 induction d with
 | zero=>intro k v _ b;simp [AV.under]at b
 | succ d p=>
   intro k v r b
   obtain ⟨k,rfl⟩:∃ j,k=j+1:=⟨k-1,by omega⟩
   have e:∀ {l:List AV},l.all (AV.under n d)=true->l.all (AV.under m k)=true:=fun e=>List.all_eq_true.2 fun x q=>p k x (by omega) (List.all_eq_true.1 e x q)
   cases v with
   | ptr i g o=>simp only [AV.under,Nat.blt_eq]at b ⊢;omega
   | sl i g o l c=>simp only [AV.under,Nat.blt_eq]at b ⊢;omega
   | map i=>simp only [AV.under,Nat.blt_eq]at b ⊢;omega
   | pf v=>simp only [AV.under]at b ⊢;exact p k v (by omega) b
   | iface t v=>simp only [AV.under]at b ⊢;exact p k v (by omega) b
   | fz l c=>simp only [AV.under]at b ⊢;exact e b
   | agg l=>simp only [AV.under]at b ⊢;exact e b
   | tuple l=>simp only [AV.under]at b ⊢;exact e b
   | func f a c=>
     simp only [AV.under,Bool.and_eq_true]at b ⊢;refine ⟨⟨?_,e b.1.2⟩,e b.2⟩;have:=b.1.1
     cases f<;>first | rfl | (simp only [Nat.blt_eq]at this ⊢;omega)
   | _=>rfl
theorem UnderE.mono {n m:Nat} {v:AV} (h:UnderE n v) (b:n<=m):UnderE m v:=let ⟨d,a⟩:=h;⟨d,nN b d d v (Nat.le_refl _) a⟩
theorem UnderE.und {n:Nat} {v:AV} (h:UnderE n v):Und n v:=fun σ V a=>let ⟨d,b⟩:=h;VR.cut d v V b a
theorem lO {n:Nat} {l:List AV} (h:∀ x∈l,UnderE n x):∃ d,l.all (AV.under n d)=true:=by
 induction l with
 | nil=>exact ⟨0,rfl⟩
 | cons a l f=>
   obtain ⟨d,c⟩:=f fun x b=>h x (List.mem_cons_of_mem _ b)
   obtain ⟨k,e⟩:=h a (List.mem_cons_self ..);refine ⟨max d k,List.all_eq_true.2 fun x b=>?_⟩
   rcases List.mem_cons.1 b with rfl | b
   ·exact nN (Nat.le_refl n) k _ _ (Nat.le_max_right _ _) e
   ·exact nN (Nat.le_refl n) d _ _ (Nat.le_max_left _ _) (List.all_eq_true.1 c x b)
theorem dM {n:Nat} {l:List AV} (h:∀ x∈l,UnderE n x):UnderE n (.agg l):=let ⟨d,a⟩:=lO h;⟨d+1,a⟩
theorem JP {n:Nat} {l:List AV} (h:∀ x∈l,UnderE n x):UnderE n (.tuple l):=let ⟨d,a⟩:=lO h;⟨d+1,a⟩
theorem HY {n:Nat} {l:List AV} {c:Bool} (h:∀ x∈l,UnderE n x):UnderE n (.fz l c):=let ⟨d,a⟩:=lO h;⟨d+1,a⟩
theorem kX {n:Nat} {v:AV} (h:UnderE n v):UnderE n (.pf v):=let ⟨d,a⟩:=h;⟨d+1,a⟩
theorem mO {n:Nat} {t:TypeId} {v:AV} (h:UnderE n v):UnderE n (.iface t v):=let ⟨d,a⟩:=h;⟨d+1,a⟩
theorem jE {n:Nat} {f:FuncId} {a c:List AV} (h:∀ x∈a,UnderE n x) (e:∀ x∈c,UnderE n x):UnderE n (.func (.func f) a c):=by
 obtain ⟨d,l⟩:=lO h;obtain ⟨k,m⟩:=lO e;refine ⟨max d k+1,?_⟩;simp only [AV.under,Bool.and_eq_true];exact ⟨⟨by first | rfl | trivial,List.all_eq_true.2 fun x b=>nN (Nat.le_refl n) d _ _ (Nat.le_max_left _ _) (List.all_eq_true.1 l x b)⟩,List.all_eq_true.2 fun x b=>nN (Nat.le_refl n) k _ _ (Nat.le_max_right _ _) (List.all_eq_true.1 m x b)⟩
def iW (n:Nat):List AV->Prop
 | []=>True
 | v::l=>UnderE n v/\iW n l
theorem iF {n:Nat}:∀ {l:List AV},iW n l↔∀ x∈l,UnderE n x
 | []=>by simp [iW]
 | v::l=>by simp only [iW,iF (l:=l),List.forall_mem_cons]
def eW (Y:Nat->Prop):AV->Prop
 | .ptr id _ _ | .map id | .sl id _ _ _ _=>Y id
 | _=>True
def EA (Y:Nat->Prop):List AV->Prop
 | []=>True
 | v::l=>eW Y v/\EA Y l
def dP (qs ps:List Nat) (i:Nat) (op:Op):Nat:=bif fR op then 0 else bif dF op then 1 else bif ps.elem i then 3 else bif qs.elem i then 2 else match op with
 | .load _ _ | .lookup _ _ _ _ | .convert _ _ _=>2
 | .call c=>(match c.callee with
   | .builtin .len | .builtin .min | .builtin .max=>2
   | _=>3)
 | _=>3
def cQ:List Nat->Bool
 | 1000::_=>true
 | 1001::_=>true
 | _=>false
def tD:List Nat->Nat
 | 1000::_::t::_=>t
 | _=>1000000
def JQ (ps:List Nat) (i:Nat) (op:Op):Bool:=cQ ps&&(decide (i<tD ps)||dF op)
def xK (ps:List Nat) (i:Nat):Bool:=match ps with
 | 1000::_::_::r=>r.elem i
 | _=>false
def HZ (ps as:List Nat) (i ki j a:Nat):Bool:=bif Nat.beq a 3 then Nat.beq ki 0||((cQ ps&&decide (j<tD ps))&&(Nat.beq ki 2 && !xK ps i))||(as.getD j 0).testBit i else bif Nat.beq ki 3 then ((cQ ps && !xK ps j)&&decide (i<tD ps)) || !Nat.beq a 2||((!cQ ps||xK ps j)&&(as.getD j 0).testBit i) else true
def JR (qs ps as:List Nat):List Oper->Nat->Bool
 | [],_=>true
 | o::rest,i=>(rest.zipIdx (i+1)).all (fun q=>HZ ps as i (dP qs ps i o.op) q.2 (dP qs ps q.2 q.1.op))&&JR qs ps as rest (i+1)
def sOk (qs ps:List Nat) (ops:List Oper):Bool:=nZ ops&&JR qs ps (cI ops) ops 0
def JS (a b:Nat):Nat:=Nat.min a b
def bD (ps:List Nat) (n:Nat):Nat:=match ps with
 | 1000::k::_=>JS n (k-2000)
 | 1001::k::_=>JS n (k-2000)
 | _=>n
def nD (ps:List Nat) (n:Nat):Nat:=bif cQ ps then bD ps n else n
theorem aEj {ps:List Nat} {n:Nat}:nD ps n<=n:=by
 unfold nD
 cases cQ ps with
 | false=>exact Nat.le_refl _
 | true=>
   show bD ps n<=n;unfold bD;split
   ·exact Nat.min_le_left _ _
   ·exact Nat.min_le_left _ _
   ·exact Nat.le_refl _
theorem aNj {ps:List Nat} {n:Nat} (h:cQ ps=false):nD ps n=n:=by rw [nD,h];rfl
def rD (ps:List Nat) (i n:Nat):Nat:=bif xK ps i then n else nD ps n
theorem aSm {ps:List Nat} {i n:Nat}:rD ps i n<=n:=by
 unfold rD
 cases xK ps i with
 | true=>exact Nat.le_refl _
 | false=>exact aEj
theorem aKi {ps:List Nat} {i:Nat} (h:cQ ps=false):xK ps i=false:=by
 unfold xK;split
 ·cases h
 ·rfl
theorem aSn {ps:List Nat} {i n:Nat} (h:cQ ps=false):rD ps i n=n:=by rw [rD,aKi h];exact aNj h
def EB (n0:Nat) (s a:Sto):Prop:=∀ id,id<n0->a.get id=s.get id
def xD (ps:List Nat) (id:Nat):Prop:=match ps with
 | 1001::_::x::y::_=>x<=id+2000/\id+2000<y
 | _=>False
def noX (_:Nat):Prop:=False
def exY (X Y:Nat->Prop) (id:Nat):Prop:=Y id/\¬ X id
def qY (X:Nat->Prop) (n0:Nat) (s a:Sto):Prop:=∀ id,id<n0->¬ X id->a.get id=s.get id
theorem aPc {Y:Nat->Prop}:exY noX Y=Y:=by funext id;simp [exY,noX]
theorem ZQ {n0:Nat} {s a:Sto}:qY noX n0 s a=EB n0 s a:=by simp [qY,EB,noX]
theorem aSo {ps:List Nat} (h:cQ ps=false):xD ps=noX:=by
 funext id
 unfold xD;split
 ·cases h
 ·rfl
theorem OF {qs ps as:List Nat}:∀ (l:List Oper) (i:Nat),JR qs ps as l i=true->∀ (a b:Nat) (x y:Oper),a<b->l[a]?=some x->l[b]?=some y->HZ ps as (i+a) (dP qs ps (i+a) x.op) (i+b) (dP qs ps (i+b) y.op)=true:=by
 intro l
 induction l with
 | nil=>intro i _ a b x y _ h;simp at h
 | cons o l k=>
   intro i h a b x y f d e;simp only [JR,Bool.and_eq_true]at h
   cases a with
   | zero=>
     obtain ⟨b,rfl⟩:∃ c,b=c+1:=⟨b-1,by omega⟩
     simp at d e;subst d;have:=List.all_eq_true.1 h.1 (y,i+1+b) (by rw [List.mem_iff_getElem?];exact ⟨b,by simp [List.getElem?_zipIdx,e]⟩)
     simpa [show i+1+b=i+(b+1) by omega] using this
   | succ a=>
     obtain ⟨b,rfl⟩:∃ c,b=c+1:=⟨b-1,by omega⟩
     simp at d e;have:=k (i+1) h.2 a b x y (by omega) d e
     simpa [show i+1+a=i+(a+1) by omega,show i+1+b=i+(b+1) by omega] using this
section
variable (P:Program) (O:Orc)
def vK (K:ORes->Prop):ORes->Prop
 | .val v=>K (.val v)
 | _=>False
def cK (n:Nat) (K:ORes->Prop):ORes->Prop
 | .val' v s=>n<=s.n/\K (.val' v s)
 | .pan v s=>n<=s.n/\K (.pan v s)
 | _=>False
def cF (F:Sto->Option ORes) (Y:Nat->Prop) (s:Sto) (K:ORes->Prop):ORes->Prop
 | .val v=>(∀ a,(∀ id,Y id->a.get id=s.get id)->F a=some (.val v))/\K (.val v)
 | .val' v a=>s.n<=a.n/\K (.val' v a)
 | .pan v a=>s.n<=a.n/\K (.pan v a)
 | _=>False
def GW (F:Sto->Option CRes) (r:Option CRes) (a:Prop) (s:Sto) (K:ORes->Prop):Prop:=match r with
 | some (.ret v none)=>(∀ b,F b=some (.ret v none))/\K (.val v)
 | some (.ret v (some b))=>a/\s.n<=b.n/\K (.val' v b)
 | some (.pan v none)=>a/\K (.pan v s)
 | some (.pan v (some b))=>a/\s.n<=b.n/\K (.pan v b)
 | none=>False
def yK (n:Nat) (K:ORes->Prop):CRes->Prop
 | .ret v (some a)=>n<=a.n/\K (.val' v a)
 | .pan v (some a)=>n<=a.n/\K (.pan v a)
 | _=>True
def vG (kd:Nat) (a:AV) (args:List AV) (s:Sto) (K:ORes->Prop):Prop:=match a with
 | .func (.func g) first cap=>GW (O g (first++args++cap)) (O g (first++args++cap) s) (kd=3/\iW s.n (.func (.func g) first cap::args)) s K
 | .func (.yield l) first cap=>(kd=3/\iW s.n (.func (.yield l) first cap::args))/\Wcall P O (.func (.yield l) first cap) args s (yK s.n K)
 | _=>False
def sD (kd:Nat) (Y:Nat->Prop) (op:Op) (e:Env) (K:ORes->Prop):Prop:=match op with
 | .load ty a=>eW Y (e.eval a)/\nR (fD P e.s ty (e.eval a)) K
 | .lookup ty m k ok=>eW Y (e.eval m)/\nR (alookup P e.s ty (e.eval m) (e.eval k) ok) K
 | .convert h dst x=>eW Y (e.eval x)/\sE (jF P e.s h dst (e.eval x)) (vK K)
 | .store ty a x=>(kd=3/\iW e.s.n [e.eval a,e.eval x])/\MP (mB P e.s ty (e.eval a) (e.eval x)) (cK e.s.n K)
 | .mapUpdate ty m k x=>(kd=3/\iW e.s.n [e.eval m,e.eval k,e.eval x])/\MP (cU P e.s ty (e.eval m) (e.eval k) (e.eval x)) (cK e.s.n K)
 | .alloc ty=>jX (bB P ty) e.s K
 | .box _ x=>iW e.s.n [e.eval x]/\xP (e.eval x) e.s K
 | .buildSlice ty len d=>iW e.s.n (d.toList.map fun p=>e.eval p.2)/\eI P O (.buildSlice ty len d) e K
 | .makeSlice ty l c=>iW e.s.n [e.eval l,e.eval c]/\eI P O (.makeSlice ty l c) e K
 | .call c=>(match c.callee with
   | .builtin .len=>EA Y (c.args.toList.map e.eval)/\sE (abuiltin P e.s .len c.argTypes (c.args.toList.map e.eval)) (vK K)
   | .builtin .min=>sE (abuiltin P e.s .min c.argTypes (c.args.toList.map e.eval)) (vK K)
   | .builtin .max=>sE (abuiltin P e.s .max c.argTypes (c.args.toList.map e.eval)) (vK K)
   | .builtin b=>(kd=3/\iW e.s.n (c.args.toList.map e.eval))/\sE (abuiltin P e.s b c.argTypes (c.args.toList.map e.eval)) (cF (fun o=>abuiltin P o b c.argTypes (c.args.toList.map e.eval)) Y e.s K)
   | .value f=>vG P O kd (e.eval f) (c.args.toList.map e.eval) e.s K
   | .invoke _ _=>False)
 | op=>fR op=true/\eI P O op e K
def vU (dst:Option Tmp) (e:Env) (md:Bool) (n0:Nat) (X:Nat->Prop) (nw:Bool) (i:Nat) (N:List (Nat × Nat)) (next:List (Nat × Nat)->Env->Prop) (a:AV->Sto->Prop):ORes->Prop
 | .val v=>∃ e',e.put dst v=some e'/\next N e'
 | .val' v s=>(md=true->qY X n0 e.s s)/\∃ e',(e.setS s).put dst v=some e'/\next (bif nw then (i,e.s.n)::N else N) e'
 | .pan v s=>(md=true->qY X n0 e.s s)/\a v s
 | _=>False
def JT (ops:List Oper) (a:Env) (Q:Ex->Env->Prop) (i:Nat) (v:AV) (s:Sto):Prop:=kF (cI ops) i ops 0=true/\Q (.panic v) (fT {a with s:=s} ops)
def gL (v:AV) (want:Bool) (kd:Nat) (Y:Nat->Prop) (op:Op) (e:Env) (K:ORes->Prop):Prop:=match v with
 | .bool b=>(b=want->sD P O kd Y op e K)/\(b = !want->K (.val .undef))
 | .tuple _=>K (.val .undef)
 | _=>False
def Wd (qs ps:List Nat) (ops:List Oper) (a:Env) (Q:Ex->Env->Prop):List Oper->Nat->List (Nat × Nat)->Env->Prop
 | [],_,_,e=>Q .normal e
 | o::rest,i,N,e=>match o.guard with
   | none=>sD P O (dP qs ps i o.op) (exY (xD ps) (keptY (rD ps i a.s.n) (cI ops) (bif cQ ps then [] else N) i)) o.op e (vU o.dst e (JQ ps i o.op) (nD ps a.s.n) (xD ps) (dF o.op) i N (fun N e=>Wd qs ps ops a Q rest (i+1) N e) (JT ops a Q i))
   | some (j,b)=>gL P O (aAa e.t (HA ops j)) b (dP qs ps i o.op) (exY (xD ps) (keptY (rD ps i a.s.n) (cI ops) (bif cQ ps then [] else N) i)) o.op e (vU o.dst e (JQ ps i o.op) (nD ps a.s.n) (xD ps) (dF o.op) i N (fun N e=>Wd qs ps ops a Q rest (i+1) N e) (JT ops a Q i))
variable {P O}
def RowD (P:Program) (call:bR) (qs ps:List Nat) (Y:Nat->Prop) (i:Nat) (o:Oper) (e:Env):ORes->Prop
 | .val v=>fR o.op=true∨(dF o.op=false/\∀ a,(∀ id,Y id->a.get id=e.s.get id)->iD P call o {e with s:=a} = some (.val v))
 | .val' _ a=>(dF o.op=true∨dP qs ps i o.op=3)/\(∀ y∈o.op.operands.toList,UnderE e.s.n (e.eval y))/\e.s.n<=a.n/\fR o.op=false
 | .pan _ a=>(dF o.op=false/\dP qs ps i o.op=3)/\(∀ y∈o.op.operands.toList,UnderE e.s.n (e.eval y))/\e.s.n<=a.n/\fR o.op=false
 | _=>False
theorem RowD.mono {c d:bR} (h:CLe c d) {qs ps:List Nat} {Y:Nat->Prop} {i:Nat} {o:Oper} {e:Env} {r:ORes} (b:RowD P c qs ps Y i o e r):RowD P d qs ps Y i o e r:=by
 cases r with
 | val v=>
   rcases b with a | ⟨a,f⟩
   ·exact .inl a
   ·exact .inr ⟨a,fun l k=>jW h (f l k)⟩
 | _=>exact b
theorem kY (e:Env) (s:Sto) (x:Operand):({e with s:=s}:Env).eval x=e.eval x:=by cases x<;>rfl
theorem SN {s c:Sto} {ty:TypeId} {a:AV} {n:Nat->Prop} (b:eW n a) (h:∀ id,n id->c.get id=s.get id):fD P c ty a=fD P s ty a:=by
 cases a with
 | ptr id g off=>simp only [eW]at b;simp only [fD,h id b]
 | _=>rfl
theorem JU {s b:Sto} {ty:TypeId} {m k:AV} {ok:Bool} {n:Nat->Prop} (a:eW n m) (h:∀ id,n id->b.get id=s.get id):alookup P b ty m k ok=alookup P s ty m k ok:=by
 cases m with
 | map id=>simp only [eW]at a;simp only [alookup,h id a]
 | _=>rfl
theorem OG {s d:Sto} {k m:Nat} {a:AV} {n:Nat->Prop} (b:eW n a) (h:∀ id,n id->d.get id=s.get id):dV d k m a=dV s k m a:=by
 cases a with
 | sl id g off len c=>simp only [eW]at b;simp only [dV,h id b]
 | _=>rfl
theorem SO {s d:Sto} {c dst:TypeId} {a v:AV} {n:Nat->Prop} (e:eW n a) (h:∀ id,n id->d.get id=s.get id) (b:jF P s c dst a=some (.val v)):jF P d c dst a=some (.val v):=by
 unfold jF at b ⊢;split at b
 ·exact b
 ·exact b
 ·exfalso
  split at b
  ·split at b<;>cases b
  ·cases b
 ·rename_i f k l
  split at b
  ·rename_i m o
   rw [OG e h];exact b
  ·cases b
 ·cases b
theorem xL {s b:Sto} {a:Array TypeId} {l:List AV} {n:Nat->Prop} (c:EA n l) (h:∀ id,n id->b.get id=s.get id):abuiltin P b .len a l=abuiltin P s .len a l:=by
 simp only [abuiltin]
 cases a[0]? with
 | none=>rcases l with _ | ⟨x,_ | ⟨y,l⟩⟩<;>first | rfl | (cases x<;>rfl)
 | some t=>
   simp only
   cases P.underlying t with
   | none=>rcases l with _ | ⟨x,_ | ⟨y,l⟩⟩<;>first | rfl | (cases x<;>rfl)
   | some d=>
     rcases l with _ | ⟨x,_ | ⟨y,l⟩⟩
     ·cases d<;>rfl
     ·cases x with
      | map id=>
        have:=h id c.1
        cases d<;>first | rfl | (simp only [this])
      | _=>cases d<;>rfl
     ·cases d<;>first | rfl | (cases x<;>rfl)
theorem eN {n:Nat} {e:Env} {l:List Operand} (h:iW n (l.map e.eval)):∀ y∈l,UnderE n (e.eval y):=fun y a=>iF.1 h _ (List.mem_map.2 ⟨y,a,rfl⟩)
theorem nO {s:Sto} {l:Nat} {j:Option Code} {e:Env} {res:CRes} {a:ARec} (h:eD s l j e=some (res,a)):a=.no/\∃ v s',res=.ret v (some s'):=by
 unfold eD at h;split at h
 ·cases h;exact ⟨rfl,_,_,rfl⟩
 ·cases h
theorem OH {n l:Nat} {first cap args:List AV} {s:Sto} {res:CRes} {c:ARec} (h:aP P O n (.func (.yield l) first cap) args s .no=some (res,c)):c=.no/\((∃ v d,res=.ret v (some d))∨∃ v d,res=.pan v (some d)):=by
 cases n with
 | zero=>cases h
 | succ n=>
   change mD P (aP P O n) n l (first++args) s=some (res,c) at h;unfold mD at h;split at h
   ·split at h
    ·split at h
     ·split at h
      ·split at h
       ·obtain ⟨a,b⟩:=nO h;exact ⟨a,.inl b⟩
       ·obtain ⟨a,b⟩:=nO h;exact ⟨a,.inl b⟩
       ·obtain ⟨a,b⟩:=nO h;exact ⟨a,.inl b⟩
       ·split at h
        ·rename_i e _ _ _
         cases f:okFn P e.fn with
         | true=>rw [f]at h;cases h;exact ⟨rfl,.inr ⟨_,_,rfl⟩⟩
         | false=>rw [f]at h;cases h
        ·cases h
       ·cases h
      ·cases h
     ·cases h
    ·cases h
   ·cases h
theorem aKj {qs ps:List Nat} {Y:Nat->Prop} {i:Nat} {o:Oper} {e:Env} {K:ORes->Prop} (h:sD P O (dP qs ps i o.op) Y o.op e K):
 ∃ N r,iD P (aP P O N) o e=some r/\K r/\RowD P (aP P O N) qs ps Y i o e r:=by
 have ac:∀ N,iD P (aP P O N) o e=eX P (aP P O N) o.op e:=fun _=>rfl
 have Z:∀ N d,iD P (aP P O N) o {e with s:=d} = eX P (aP P O N) o.op {e with s:=d}:=fun _ _=>rfl
 obtain ⟨dst,op,A,pos,after,guard⟩:=o;simp only at h ac Z
 have R:fR op=true->eI P O op e K->∃ N r,iD P (aP P O N) {dst:=dst,op:=op,type:=A,pos:=pos,after:=after,guard:=guard} e=some r/\K r/\RowD P (aP P O N) qs ps Y i {dst:=dst,op:=op,type:=A,pos:=pos,after:=after,guard:=guard} e r:=by
  rintro T ⟨N,r,u,q⟩;obtain ⟨⟨v,rfl⟩,_⟩:=PI (P:=P) (call:=aP P O N) (o:={dst:=dst,op:=op,type:=A,pos:=pos,after:=after,guard:=guard}) (e:=e) T u;exact ⟨N,_,u,q,.inl T⟩
 have D:dF op=true->(∀ y∈op.operands.toList,UnderE e.s.n (e.eval y))->eI P O op e K->∃ N r,iD P (aP P O N) {dst:=dst,op:=op,type:=A,pos:=pos,after:=after,guard:=guard} e=some r/\K r/\RowD P (aP P O N) qs ps Y i {dst:=dst,op:=op,type:=A,pos:=pos,after:=after,guard:=guard} e r:=by
  rintro T E ⟨N,r,u,q⟩;obtain ⟨v,x,rfl,_⟩:=KP (P:=P) (call:=aP P O N) (o:={dst:=dst,op:=op,type:=A,pos:=pos,after:=after,guard:=guard}) (e:=e) T u;refine ⟨N,_,u,q,.inl T,E,by simp,?_⟩;show fR op=false
  cases op<;>first | rfl | cases T
 cases op with
 | load ty a=>
   obtain ⟨S,v,u,q⟩:=h;exact ⟨0,.val v,by show valO _=_;rw [u];rfl,q,.inr ⟨rfl,fun d w=>by show valO (fD P d ty (({e with s:=d}:Env).eval a))=_;rw [kY,SN S w,u];rfl⟩⟩
 | lookup ty m k ok=>
   obtain ⟨S,v,u,q⟩:=h;exact ⟨0,.val v,by show valO _=_;rw [u];rfl,q,.inr ⟨rfl,fun d w=>by show valO (alookup P d ty (({e with s:=d}:Env).eval m) (({e with s:=d}:Env).eval k) ok)=_;rw [kY e d m,kY e d k,JU S w,u];rfl⟩⟩
 | convert ad U x=>
   obtain ⟨S,r,u,q⟩:=h
   cases r with
   | val v=>exact ⟨0,.val v,u,q,.inr ⟨rfl,fun d w=>by show jF P d ad U (({e with s:=d}:Env).eval x)=_;rw [kY];exact SO S w u⟩⟩
   | _=>exact q.elim
 | store ty a x=>
   obtain ⟨⟨H,E⟩,d,u,q⟩:=h;obtain ⟨q,h3⟩:=q;exact ⟨0,.val' .undef d,by show skipO _=_;rw [u];rfl,h3,.inr H,eN (l:=[a,x]) E,q,rfl⟩
 | mapUpdate ty m k x=>
   obtain ⟨⟨H,E⟩,d,u,q⟩:=h;obtain ⟨q,h3⟩:=q;exact ⟨0,.val' .undef d,by show skipO _=_;rw [u];rfl,h3,.inr H,eN (l:=[m,k,x]) E,q,rfl⟩
 | alloc ty=>exact D rfl (fun y F=>nomatch F) (IC.2 h)
 | box ty x=>exact D rfl (eN (l:=[x]) h.1) (WX.2 h.2)
 | buildSlice ty len G=>
   refine D rfl ?_ h.2;have:=h.1;rw [show (G.toList.map fun p=>e.eval p.2)=(G.toList.map (·.2)).map e.eval by rw [List.map_map];rfl]at this;exact eN this
 | makeSlice ty l c=>exact D rfl (eN (l:=[l,c]) h.1) h.2
 | call c=>
   obtain ⟨callee,args,C⟩:=c
   cases callee with
   | value f=>
     simp only [sD]at h;unfold vG at h;split at h
     ·rename_i g first cap V
      have I:∀ (s:Sto) (x:CRes),O g (first++args.toList.map e.eval++cap) s=some x->fQ s (aP P O 1 (({e with s:=s}:Env).eval f) (fH {e with s:=s} args) s .no)=fQ s (some (x,.no)):=by
       intro s x hx
       have u:fH {e with s:=s} args=args.toList.map e.eval:=by
        simp only [fH]
        exact List.map_congr_left fun y _=>kY e s y
       rw [kY,u,V];simp only [aP,BP,hx]
      generalize hr:O g (first++args.toList.map e.eval++cap) e.s=r at h
      have B:(dP qs ps i (.call {callee:=.value f,args:=args,argTypes:=C})=3/\iW e.s.n (.func (.func g) first cap::args.toList.map e.eval))->∀ y∈(Op.call {callee:=.value f,args:=args,argTypes:=C}).operands.toList,UnderE e.s.n (e.eval y):=by
       rintro ⟨_,E⟩ y F
       have:y=f∨y∈args.toList:=by simpa [Op.operands,Call.operands] using F
       rcases this with rfl | F
       ·rw [V];exact E.1
       ·exact eN E.2 y F
      cases r with
      | none=>exact h.elim
      | some x=>
        have L:=I e.s x hr
        cases x with
        | ret v so=>
          cases so with
          | none=>
            obtain ⟨hF,M⟩:=h;exact ⟨1,.val v,L,M,.inr ⟨rfl,fun d _=>I d _ (hF d)⟩⟩
          | some d=>
            obtain ⟨J,hn,M⟩:=h;exact ⟨1,.val' v d,L,M,.inr J.1,B J,hn,rfl⟩
        | pan v so=>
          cases so with
          | none=>
            obtain ⟨J,M⟩:=h;exact ⟨1,.pan v e.s,L,M,⟨rfl,J.1⟩,B J,Nat.le_refl _,rfl⟩
          | some d=>
            obtain ⟨J,hn,M⟩:=h;exact ⟨1,.pan v d,L,M,⟨rfl,J.1⟩,B J,hn,rfl⟩
     ·rename_i l first cap V
      obtain ⟨⟨H,E⟩,N,res,rr,u,q⟩:=h
      have B:∀ y∈(Op.call {callee:=.value f,args:=args,argTypes:=C}).operands.toList,UnderE e.s.n (e.eval y):=by
       intro y F
       have:y=f∨y∈args.toList:=by simpa [Op.operands,Call.operands] using F
       rcases this with rfl | F
       ·rw [V];exact E.1
       ·exact eN E.2 y F
      have L:fQ e.s (aP P O N (e.eval f) (fH e args) e.s .no)=fQ e.s (some (res,rr)):=by rw [V];exact congrArg _ u
      obtain ⟨rfl,⟨v,d,rfl⟩ | ⟨v,d,rfl⟩⟩:=OH u
      ·exact ⟨N,.val' v d,L,q.2,.inr H,B,q.1,rfl⟩
      ·exact ⟨N,.pan v d,L,q.2,⟨rfl,H⟩,B,q.1,rfl⟩
     ·exact h.elim
   | invoke f n=>exact h.elim
   | builtin b=>
     have Q:∀ d,fH {e with s:=d} args=args.toList.map e.eval:=fun d=>List.map_congr_left fun y _=>kY e d y
     have ab:(dP qs ps i (.call {callee:=.builtin b,args:=args,argTypes:=C})=3/\iW e.s.n (args.toList.map e.eval))/\sE (abuiltin P e.s b C (args.toList.map e.eval)) (cF (fun d=>abuiltin P d b C (args.toList.map e.eval)) Y e.s K)->
      ∃ N r,iD P (aP P O N) {dst:=dst,op:=.call {callee:=.builtin b,args:=args,argTypes:=C},type:=A,pos:=pos,after:=after,guard:=guard} e=some r/\K r/\RowD P (aP P O N) qs ps Y i {dst:=dst,op:=.call {callee:=.builtin b,args:=args,argTypes:=C},type:=A,pos:=pos,after:=after,guard:=guard} e r:=by
      rintro ⟨⟨H,E⟩,r,u,q⟩
      have aa:∀ y∈(Op.call {callee:=.builtin b,args:=args,argTypes:=C}).operands.toList,UnderE e.s.n (e.eval y):=fun y F=>eN E y (by simpa [Op.operands,Call.operands] using F)
      cases r with
      | val v=>exact ⟨0,.val v,u,q.2,.inr ⟨rfl,fun d w=>by
       show abuiltin P d b C (fH {e with s:=d} args)=_
       rw [Q];exact q.1 d w⟩⟩
      | val' v d=>exact ⟨0,_,u,q.2,.inr H,aa,q.1,rfl⟩
      | pan v d=>exact ⟨0,_,u,q.2,⟨rfl,H⟩,aa,q.1,rfl⟩
      | _=>exact q.elim
     have X:∀ {b:Builtin},(b=.min∨b=.max)->sE (abuiltin P e.s b C (args.toList.map e.eval)) (vK K)->
      ∃ N r,iD P (aP P O N) {dst:=dst,op:=.call {callee:=.builtin b,args:=args,argTypes:=C},type:=A,pos:=pos,after:=after,guard:=guard} e=some r/\K r/\RowD P (aP P O N) qs ps Y i {dst:=dst,op:=.call {callee:=.builtin b,args:=args,argTypes:=C},type:=A,pos:=pos,after:=after,guard:=guard} e r:=by
      rintro b hb ⟨r,u,q⟩
      cases r with
      | val v=>
        refine ⟨0,.val v,u,q,.inr ⟨rfl,fun d w=>?_⟩⟩;show abuiltin P d b C (fH {e with s:=d} args)=_;rw [Q]
        rcases hb with rfl | rfl<;>exact u
      | _=>exact q.elim
     cases b with
     | len=>
       obtain ⟨S,r,u,q⟩:=h
       cases r with
       | val v=>
         refine ⟨0,.val v,u,q,.inr ⟨rfl,fun d w=>?_⟩⟩;show abuiltin P d .len C (fH {e with s:=d} args)=_;rw [Q,xL S w];exact u
       | _=>exact q.elim
     | min=>exact X (.inl rfl) h
     | max=>exact X (.inr rfl) h
     | _=>exact ab h
 | _=>exact R h.1 h.2
structure RowI (P:Program) (call:bR) (qs ps:List Nat) (n0:Nat) (as:List Nat) (ns:List (Nat × Nat)) (x:TrE):Prop where
 keep:x.run=true->x.chg=false->fR x.o.op=true∨(dF x.o.op=false/\UC P call (exY (xD ps) (keptY n0 as ns x.i)) x)
 chg:x.chg=true->(dF x.o.op=true∨dP qs ps x.i x.o.op=3)/\(∀ y∈x.o.op.operands.toList,UnderE x.e.s.n (x.e.eval y))/\fR x.o.op=false/\x.run=true
theorem RowI.mono {c d:bR} (h:CLe c d) {qs ps:List Nat} {n0:Nat} {as:List Nat} {ns:List (Nat × Nat)} {x:TrE} (a:RowI P c qs ps n0 as ns x):RowI P d qs ps n0 as ns x:=
 ⟨fun f k=>(a.keep f k).imp id fun ⟨b,e⟩=>⟨b,fun m l=>jW h (e m l)⟩,a.chg⟩
theorem keptY.more {n0:Nat} {as:List Nat} {ns a:List (Nat × Nat)} (h:∀ n∈ns,n∈a) {i id:Nat} (d:keptY n0 as ns i id):keptY n0 as a i id:=d.imp (fun h=>h) fun ⟨k,b,c⟩=>⟨k,h _ b,c⟩
theorem RowI.more {c:bR} {qs ps:List Nat} {n0:Nat} {as:List Nat} {ns b:List (Nat × Nat)} {x:TrE} (h:∀ n∈ns,n∈b) (d:RowI P c qs ps n0 as ns x):RowI P c qs ps n0 as b x:=
 ⟨fun k l=>(d.keep k l).imp id fun ⟨e,f⟩=>⟨e,fun o m=>f o fun id a=>m id ⟨a.1.more h,a.2⟩⟩,d.chg⟩
def nsM (md:Bool) (ns:List (Nat × Nat)):List (Nat × Nat):=bif md then [] else ns
theorem WV {md:Bool} {a b:List (Nat × Nat)} (h:∀ n∈a,n∈b):∀ n∈nsM md a,n∈nsM md b:=by cases md<;>simp [nsM];exact fun x y c=>h _ c
def keepT (ps:List Nat) (n0:Nat) (l:List TrE) (f e:Env):Prop:=cQ ps=true->n0<=e.s.n->(∀ (q:Nat) x,l[q]?=some x->(∀ (p:Nat) z,p<q->l[p]?=some z->z.isChg=true->z.i<tD ps)->∀ id,id<n0->¬ xD ps id->x.e.s.get id=e.s.get id)/\((∀ z∈l,z.isChg=true->z.i<tD ps)->∀ id,id<n0->¬ xD ps id->f.s.get id=e.s.get id)
theorem aEn {qs ps:List Nat} {ops:List Oper} {e0:Env} {Q:Ex->Env->Prop}:∀ (rest:List Oper) (i:Nat) (N0:List (Nat × Nat)) (e:Env),Wd P O qs ps ops e0 Q rest i N0 e->
 ∃ N l f p,CF P (aP P O N) ops rest i e=some (l,f,p)/\(∀ x∈l,RowI P (aP P O N) qs ps (rD ps x.i e0.s.n) (cI ops) (nsM (cQ ps) (N0++lD l)) x)/\gZ l f.s.n=true/\(∀ x,l.head?=some x->x.e.s.n=e.s.n)/\(l=[]->f.s.n=e.s.n)/\
   keepT ps (nD ps e0.s.n) l f e/\(match (p:Option (AV × Sto)) with
    | none=>Q .normal f
    | some (v,s)=>0<l.length/\kF (cI ops) (i+l.length-1) ops 0=true/\Q (.panic v) (fT {e0 with s:=s} ops)):=by
 intro rest
 induction rest with
 | nil=>intro i N0 e h;exact ⟨0,[],e,none,rfl,by simp,rfl,by simp,by simp,fun _ _=>⟨by simp,fun _ _ _ _=>rfl⟩,h⟩
 | cons o rest ih=>
   intro i N0 e h
   have row:∀ {x:TrE} {e':Env} {N1:List (Nat × Nat)},x.i=i->x.o=o->x.e=e->(∀ n∈N1,n∈N0∨n∈lD [x])->(cQ ps=true->(x.isChg=true->x.i<tD ps)->nD ps e0.s.n<=e.s.n->qY (xD ps) (nD ps e0.s.n) e.s e'.s)->(∃ N,RowI P (aP P O N) qs ps (rD ps x.i e0.s.n) (cI ops) (nsM (cQ ps) N0) x/\∀ M,N<=M->∀ z,CF P (aP P O M) ops rest (i+1) e'=some z->CF P (aP P O M) ops (o::rest) i e=pN x (some z))->e.s.n<=e'.s.n->
    Wd P O qs ps ops e0 Q rest (i+1) N1 e'->∃ N l f p,CF P (aP P O N) ops (o::rest) i e=some (l,f,p)/\(∀ x∈l,RowI P (aP P O N) qs ps (rD ps x.i e0.s.n) (cI ops) (nsM (cQ ps) (N0++lD l)) x)/\gZ l f.s.n=true/\(∀ x,l.head?=some x->x.e.s.n=e.s.n)/\(l=[]->f.s.n=e.s.n)/\
     keepT ps (nD ps e0.s.n) l f e/\(match (p:Option (AV × Sto)) with
      | none=>Q .normal f
      | some (v,s)=>0<l.length/\kF (cI ops) (i+l.length-1) ops 0=true/\Q (.panic v) (fT {e0 with s:=s} ops)):=by
    rintro x e' N1 rfl rfl rfl hN1 hkp ⟨N,hrow,hd⟩ hn hw;obtain ⟨M,l,f,p,h1,h2,h3,h4,h5,hkt,h6⟩:=ih _ _ _ hw
    have hnews:∀ m:List TrE,lD (x::m)=lD [x]++lD m:=fun m=>by simp only [lD,List.filter_cons];cases x.isNew<;>simp
    have hc1:CLe (aP P O N) (aP P O (max N M)):=gM _ _ (Nat.le_max_left _ _);have hc2:CLe (aP P O M) (aP P O (max N M)):=gM _ _ (Nat.le_max_right _ _);refine ⟨max N M,x::l,f,p,?_,?_,?_,?_,by simp,?_,?_⟩
    ·rw [hd _ (Nat.le_max_left _ _) _ (OO hc2 _ _ _ _ h1)];rfl
    ·intro y hy
     rcases List.mem_cons.1 hy with rfl | hy
     ·exact (hrow.mono hc1).more (WV fun n hn=>List.mem_append.2 (.inl hn))
     ·refine ((h2 y hy).mono hc2).more (WV fun n hn=>?_)
      rw [hnews];simp only [List.mem_append]at hn ⊢
      rcases hn with hn | hn
      ·rcases hN1 n hn with h | h
       ·exact .inl h
       ·exact .inr (.inl h)
      ·exact .inr (.inr hn)
    ·cases l with
     | nil=>simp only [gZ,Nat.ble_eq];rw [h5 rfl];exact hn
     | cons y l=>
       simp only [gZ,Bool.and_eq_true,Nat.ble_eq];exact ⟨by rw [h4 y rfl];exact hn,h3⟩
    ·intro y hy;simp at hy;subst hy;rfl
    ·intro hm hle
     obtain ⟨g1,g2⟩:=hkt hm (Nat.le_trans hle hn);refine ⟨fun q y hy hno id hid hx=>?_,fun hno id hid hx=>(g2 (fun z hz=>hno z (List.mem_cons_of_mem _ hz)) id hid hx).trans (hkp hm (hno x (List.mem_cons_self ..)) hle id hid hx)⟩
     cases q with
     | zero=>simp at hy;subst hy;rfl
     | succ q=>exact (g1 q y (by simpa using hy) (fun p z hp hz=>hno (p+1) z (by omega) (by simpa using hz)) id hid hx).trans (hkp hm (hno 0 x (by omega) rfl) hle id hid hx)
    ·cases p with
     | none=>exact h6
     | some q=>
       obtain ⟨v,s⟩:=q;obtain ⟨g1,g2,g3⟩:=h6;refine ⟨by simp,?_,g3⟩;simp only [List.length_cons];rw [show x.i+(l.length+1)-1=x.i+1+l.length-1 by omega];exact g2
   have run:∀ (hw:cV ops o e=some true),sD P O (dP qs ps i o.op) (exY (xD ps) (keptY (rD ps i e0.s.n) (cI ops) (bif cQ ps then [] else N0) i)) o.op e (vU o.dst e (JQ ps i o.op) (nD ps e0.s.n) (xD ps) (dF o.op) i N0 (fun N e=>Wd P O qs ps ops e0 Q rest (i+1) N e) (JT ops e0 Q i))->
    ∃ N l f p,CF P (aP P O N) ops (o::rest) i e=some (l,f,p)/\(∀ x∈l,RowI P (aP P O N) qs ps (rD ps x.i e0.s.n) (cI ops) (nsM (cQ ps) (N0++lD l)) x)/\gZ l f.s.n=true/\(∀ x,l.head?=some x->x.e.s.n=e.s.n)/\(l=[]->f.s.n=e.s.n)/\
      keepT ps (nD ps e0.s.n) l f e/\(match (p:Option (AV × Sto)) with
       | none=>Q .normal f
       | some (v,s)=>0<l.length/\kF (cI ops) (i+l.length-1) ops 0=true/\Q (.panic v) (fT {e0 with s:=s} ops)):=by
    intro hw hs;obtain ⟨N,r,h1,h2,h3⟩:=aKj hs
    have hop:∀ M,N<=M->iD P (aP P O M) o e=some r:=fun M hM=>jW (gM _ _ hM) h1
    cases r with
    | val v=>
      obtain ⟨e',hp,hn⟩:=h2
      refine row (x:={i,o,e,v,run:=true,chg:=false}) rfl rfl rfl (fun n hn=>.inl hn) (fun _ _ _ id _ _=>by
       have:e'.s=e.s:=by
        cases hd:o.dst with
        | none=>rw [hd]at hp;simp [Env.put]at hp;subst hp;rfl
        | some d=>
          rw [hd]at hp;simp only [Env.put]at hp;rw [eP]at hp;split at hp
          ·simp at hp;subst hp;rfl
          ·cases hp
       rw [this]) ⟨N,⟨fun _ _=>h3,fun h=>(by cases h)⟩,fun M hM z hz=>by simp only [CF,hw,hop M hM,hp,hz]⟩ ?_ hn
      cases hd:o.dst with
      | none=>rw [hd]at hp;simp [Env.put]at hp;subst hp;exact Nat.le_refl _
      | some d=>
        rw [hd]at hp;simp only [Env.put]at hp;rw [eP]at hp;split at hp
        ·simp at hp;subst hp;exact Nat.le_refl _
        ·cases hp
    | val' v s'=>
      obtain ⟨hkeep,e',hp,hn⟩:=h2;obtain ⟨q1,q2,q3,q4⟩:=h3
      have hes:e'.s=s':=by
       cases hd:o.dst with
       | none=>rw [hd]at hp;simp [Env.put]at hp;subst hp;rfl
       | some d=>
         rw [hd]at hp;simp only [Env.put,Env.setS]at hp;rw [eP]at hp;split at hp
         ·simp at hp;subst hp;rfl
         ·cases hp
      refine row (x:={i,o,e,v,run:=true,chg:=true}) rfl rfl rfl (fun n hn=>by
       cases hnw:dF o.op with
       | false=>rw [hnw]at hn;exact .inl hn
       | true=>
         rw [hnw]at hn
         rcases List.mem_cons.1 hn with rfl | hn
         ·right;simp [lD,TrE.isNew,hnw]
         ·exact .inl hn) (fun hm hc _=>by
         rw [hes];refine hkeep ?_
         have hc':dF o.op=false->i<tD ps:=fun h=>hc (by simp [TrE.isChg,h])
         simp only [JQ,hm,Bool.true_and]
         cases hnw:dF o.op with
         | true=>simp
         | false=>simp [hc' hnw]) ⟨N,⟨fun _ h=>(by cases h),fun _=>⟨q1,q2,q4,rfl⟩⟩,fun M hM z hz=>by simp only [CF,hw,hop M hM,hp,hz]⟩ ?_ hn
      have:e'.s=s':=by
       cases hd:o.dst with
       | none=>rw [hd]at hp;simp [Env.put]at hp;subst hp;rfl
       | some d=>
         rw [hd]at hp;simp only [Env.put,Env.setS]at hp;rw [eP]at hp;split at hp
         ·simp at hp;subst hp;rfl
         ·cases hp
      rw [this];exact q3
    | pan v s'=>
      obtain ⟨q1,q2,q3,q4⟩:=h3;obtain ⟨hkeep,g1,g2⟩:=h2
      refine ⟨N,[{i,o,e,v,run:=true,chg:=true}],{e with s:=s'},some (v,s'),by simp only [CF,hw,h1],?_,?_,?_,by simp,fun hm _=>⟨fun q x hx _=>by
       cases q with
       | zero=>simp at hx;subst hx;exact fun _ _ _=>rfl
       | succ q=>simp at hx,fun hno=>hkeep (by
         have:=hno _ (List.mem_singleton.2 rfl) (by simp [TrE.isChg,q1.1]);have:i<tD ps:=this
         simp only [JQ,hm,Bool.true_and];simp [this])⟩,by simp,?_,g2⟩
      ·intro x hx
       rw [List.mem_singleton]at hx;subst hx;exact ⟨fun _ h=>(by cases h),fun _=>⟨.inr q1.2,q2,q4,rfl⟩⟩
      ·simp only [gZ,Nat.ble_eq];exact q3
      ·intro x hx;simp at hx;subst hx;rfl
      ·simpa using g1
    | _=>exact h3.elim
   have skip:∀ (hw:cV ops o e=some false),vU o.dst e (JQ ps i o.op) (nD ps e0.s.n) (xD ps) (dF o.op) i N0 (fun N e=>Wd P O qs ps ops e0 Q rest (i+1) N e) (JT ops e0 Q i) (.val .undef)->
    ∃ N l f p,CF P (aP P O N) ops (o::rest) i e=some (l,f,p)/\(∀ x∈l,RowI P (aP P O N) qs ps (rD ps x.i e0.s.n) (cI ops) (nsM (cQ ps) (N0++lD l)) x)/\gZ l f.s.n=true/\(∀ x,l.head?=some x->x.e.s.n=e.s.n)/\(l=[]->f.s.n=e.s.n)/\
      keepT ps (nD ps e0.s.n) l f e/\(match (p:Option (AV × Sto)) with
       | none=>Q .normal f
       | some (v,s)=>0<l.length/\kF (cI ops) (i+l.length-1) ops 0=true/\Q (.panic v) (fT {e0 with s:=s} ops)):=by
    rintro hw ⟨e',hp,hn⟩
    refine row (x:={i,o,e,v:=.undef,run:=false,chg:=false}) rfl rfl rfl (fun n hn=>.inl hn) (fun _ _ _ id _ _=>by
     have:e'.s=e.s:=by
      cases hd:o.dst with
      | none=>rw [hd]at hp;simp [Env.put]at hp;subst hp;rfl
      | some d=>
        rw [hd]at hp;simp only [Env.put]at hp;rw [eP]at hp;split at hp
        ·simp at hp;subst hp;rfl
        ·cases hp
     rw [this]) ⟨0,⟨fun h=>(by cases h),fun h=>(by cases h)⟩,fun M hM z hz=>by simp only [CF,hw,hp,hz]⟩ ?_ hn
    cases hd:o.dst with
    | none=>rw [hd]at hp;simp [Env.put]at hp;subst hp;exact Nat.le_refl _
    | some d=>
      rw [hd]at hp;simp only [Env.put]at hp;rw [eP]at hp;split at hp
      ·simp at hp;subst hp;exact Nat.le_refl _
      ·cases hp
   simp only [Wd]at h
   cases hg:o.guard with
   | none=>
     rw [hg]at h;exact run (by simp only [cV,hg]) h
   | some jw=>
     obtain ⟨j,want⟩:=jw;rw [hg]at h;simp only at h;rw [KF]at h
     cases hd:ops[j]?.bind (·.dst) with
     | none=>
       rw [hd]at h;refine skip ?_ h;simp only [cV,hg]
       cases hj:ops[j]? with
       | none=>rfl
       | some g=>rw [hj]at hd;simp only [Option.bind_some]at hd;simp only [hd]
     | some d=>
       rw [hd]at h;simp only [aAa]at h
       have haw:cV ops o e=match e.t.get d with | some (.bool b)=>some (b==want) | some (.tuple _)=>some false | _=>none:=by
        simp only [cV,hg]
        cases hj:ops[j]? with
        | none=>rw [hj]at hd;cases hd
        | some g=>rw [hj]at hd;simp only [Option.bind_some]at hd;simp only [hd];cases e.t.get d with | none=>rfl | some v=>cases v<;>rfl
       cases ht:e.t.get d with
       | none=>
         have hv:e.t.val d=.top:=by simp [Tr.val,ht]
         rw [hv]at h;exact h.elim
       | some v=>
         have hv:e.t.val d=v:=by simp [Tr.val,ht]
         rw [hv]at h;rw [ht]at haw
         cases v with
         | bool b=>
           simp only at haw
           cases hb:(b==want) with
           | true=>
             rw [hb]at haw;exact run haw (h.1 (by simpa using hb))
           | false=>
             rw [hb]at haw;refine skip haw (h.2 ?_)
             have:b≠want:=by simpa using hb
             cases b<;>cases want<;>simp_all
         | tuple l=>exact skip haw h
         | _=>exact h.elim
theorem OI {qs ps:List Nat} {i:Nat} {op:Op} (h:dF op=true):dP qs ps i op=1:=by
 have:fR op=false:=by cases op<;>first | rfl | cases h
 simp [dP,this,h]
theorem EC {qs ps:List Nat} {i:Nat} {op:Op} (h:fR op=false):dP qs ps i op≠0:=by
 simp only [dP,h,cond_false]
 cases dF op with
 | true=>simp
 | false=>
   simp only [cond_false]
   cases ps.elem i with
   | true=>simp
   | false=>
     simp only [cond_false]
     cases qs.elem i with
     | true=>simp
     | false=>
       simp only [cond_false];split
       ·simp
       ·simp
       ·simp
       ·split<;>simp
       ·simp
theorem aKk {qs ps:List Nat} {i:Nat} {op:Op} (h:fR op=false) (a:dF op=false):dP qs ps i op=2∨dP qs ps i op=3:=by
 simp only [dP,h,a,cond_false]
 cases ps.elem i with
 | true=>simp
 | false=>
   simp only [cond_false]
   cases qs.elem i with
   | true=>simp
   | false=>
     simp only [cond_false];split
     ·simp
     ·simp
     ·simp
     ·split<;>simp
     ·simp
theorem aPd (qs ps:List Nat) {i:Nat} {l:List Oper} {e:Env} {Q:Ex->Env->Prop} (hm:P.follows .mixedOrders=true) (hs:sOk qs ps l=true) (h:Wd P O qs ps l e Q l 0 [] e):W P O (.region i l.toArray true) e Q:=by
 obtain ⟨N,r,f,p,h1,h2,h3,h4,h5,bd,h6⟩:=aEn l 0 [] e h;simp only [sOk,Bool.and_eq_true]at hs;obtain ⟨ay,be⟩:=hs;have T:=aFw _ _ _ _ _ _ h1
 have R:∀ (q:Nat) x,r[q]?=some x->x.i=q:=fun q x F=>by simpa using T.i q x F
 have au:∀ (q:Nat) x,r[q]?=some x->l[q]?=some x.o:=fun q x F=>T.o q x F
 have Y:∀ (a b:Nat) x y,a<b->r[a]?=some x->r[b]?=some y->HZ ps (cI l) a (dP qs ps a x.o.op) b (dP qs ps b y.o.op)=true:=fun a b x y U F u=>by
  have:=OF l 0 be a b x.o y.o U (au a x F) (au b y u)
  simpa using this
 have A:∀ (q:Nat) x,r[q]?=some x->x.isChg=true->dP qs ps q x.o.op=3/\dF x.o.op=false:=fun q x F I=>by
  simp only [TrE.isChg,Bool.and_eq_true,Bool.not_eq_true']at I;have:=(h2 x (List.mem_of_getElem? F)).chg I.1;rw [R q x F]at this
  rcases this.1 with g | g
  ·rw [I.2]at g;cases g
  ·exact ⟨g,I.2⟩
 have D:∀ (a b:Nat) x y,a<b->r[a]?=some x->r[b]?=some y->dP qs ps b y.o.op=3->dP qs ps a x.o.op≠0->(cQ ps=false∨dP qs ps a x.o.op≠2∨tD ps<=b∨xK ps a=true)->((cI l).getD b 0).testBit a=true:=fun a b x y U F u V X C=>by
  have:=Y a b x y U F u;simp only [HZ,V,Nat.beq_refl,cond_true,Bool.or_eq_true,Bool.and_eq_true,decide_eq_true_eq,Bool.not_eq_true']at this
  rcases this with (g | ⟨⟨g1,g3⟩,g2,g4⟩) | g
  ·exact absurd (Nat.eq_of_beq_eq_true g) X
  ·rcases C with h | h | h | h
   ·rw [h]at g1;cases g1
   ·exact absurd (Nat.eq_of_beq_eq_true g2) h
   ·omega
   ·rw [h]at g4;cases g4
  ·exact g
 have Z:∀ (a b:Nat) x y,a<b->r[a]?=some x->r[b]?=some y->dP qs ps a x.o.op=3->dP qs ps b y.o.op=2->(cQ ps=false∨xK ps b=true)->((cI l).getD b 0).testBit a=true:=fun a b x y U F u V X C=>by
  have:=Y a b x y U F u
  rcases C with C | C<;>simp only [HZ,V,X,C]at this<;>simpa using this
 have ah:∀ (a b:Nat) x y,a<b->r[a]?=some x->r[b]?=some y->dP qs ps a x.o.op=3->dP qs ps b y.o.op=2->cQ ps=true->xK ps b=false->a<tD ps:=fun a b x y U F u V X C S=>by
  have:=Y a b x y U F u;simp only [HZ,V,X,C,S]at this
  simpa using this
 have ag:fS (cI l) (dQ r)=true:=by
  have af:∀ (m:List TrE) (k:Nat),(∀ q x,m[q]?=some x->r[k+q]?=some x)->fS (cI l) (dQ m)=true/\∀ c,(dQ m).head?=some c->∃ q x,m[q]?=some x/\x.isChg=true/\c=k+q:=by
   intro m
   induction m with
   | nil=>intro k _;exact ⟨rfl,by simp [dQ]⟩
   | cons x m ih=>
     intro k aa
     obtain ⟨g1,g2⟩:=ih (k+1) fun q y u=>by rw [show k+1+q=k+(q+1) by omega];exact aa (q+1) y (by simpa using u)
     have ae:=aa 0 x rfl;simp only [Nat.add_zero]at ae
     cases I:x.isChg with
     | false=>
       have:dQ (x::m)=dQ m:=by simp [dQ,I]
       rw [this];exact ⟨g1,fun c L=>by obtain ⟨q,y,k1,k2,k3⟩:=g2 c L;exact ⟨q+1,y,by simpa using k1,k2,by omega⟩⟩
     | true=>
       have:dQ (x::m)=k::dQ m:=by simp [dQ,I,R k x ae]
       rw [this];refine ⟨?_,fun c L=>⟨0,x,rfl,I,by simp at L;omega⟩⟩
       cases ax:dQ m with
       | nil=>rfl
       | cons d ds=>
         obtain ⟨q,y,k1,k2,k3⟩:=g2 d (by rw [ax];rfl);have u:=aa (q+1) y (by simpa using k1);simp only [fS,Bool.and_eq_true];rw [<-ax];refine ⟨?_,g1⟩;subst k3;rw [show k+1+q=k+(q+1) by omega];exact D k (k+(q+1)) x y (by omega) ae u (A _ y u k2).1 (by rw [(A k x ae I).1];simp) (.inr (.inl (by rw [(A k x ae I).1];simp)))
  exact (af r 0 fun q x F=>by simpa using F).1
 have M:∀ c∈dQ r,∃ x,r[c]?=some x/\x.isChg=true:=by
  intro c I;obtain ⟨x,F,rfl⟩:=List.mem_map.1 I;obtain ⟨q,J⟩:=List.getElem?_of_mem (List.mem_filter.1 F).1;exact ⟨x,by rw [R q x J];exact J,(List.mem_filter.1 F).2⟩
 have ar:tG (cI l) (lD r) (dQ r)=true:=by
  simp only [tG,List.all_eq_true,Bool.or_eq_true,Nat.blt_eq];intro c I n hn;obtain ⟨x,F,az⟩:=M c I;obtain ⟨y,u,rfl⟩:=List.mem_map.1 hn;obtain ⟨q,J⟩:=List.getElem?_of_mem (List.mem_filter.1 u).1;have al:=(List.mem_filter.1 u).2;simp only [TrE.isNew,Bool.and_eq_true]at al;simp only;rw [R q y J]
  rcases Nat.lt_trichotomy c q with g | g | g
  ·exact .inl g
  ·subst g
   rw [F]at J;cases J;have:=(A c x F az).2;rw [al.2]at this;cases this
  ·exact .inr (D q c y x g J F (A c x F az).1 (by rw [OI al.2];simp) (.inr (.inl (by rw [OI al.2];simp))))
 have ak:jG r=true:=by
  simp only [jG,List.all_eq_true,Bool.or_eq_true,Bool.not_eq_true'];intro x F
  cases I:x.chg with
  | false=>exact .inl rfl
  | true=>
    right;intro y u;simp only [unb,Bool.or_eq_true,decide_eq_true_eq];exact .inr (((h2 x F).chg I).2.1 y u)
 have aj:fI P (aP P O N) f.s.n e.s.n (cI l) r f.s=true:=by
  have ab:∀ (q:Nat) x,r[q]?=some x->dP qs ps q x.o.op=2->cQ ps=true->xK ps q=false->zX (cI l) q (fun id=>id<nD ps e.s.n/\¬ xD ps id) x.e.s (dQ r) (cG r++[f.s]):=by
   intro q x J V C S;obtain ⟨g1,g2⟩:=bd C aEj
   have ad:∀ (b:Nat) y,r[b]?=some y->y.isChg=true->b<tD ps∨((cI l).getD b 0).testBit q=true:=fun b y H u=>by
    have G:=(A b y H u).1
    rcases Nat.lt_or_ge b (tD ps) with h | h
    ·exact .inl h
    rcases Nat.lt_trichotomy b q with w | w | w
    ·exact .inl (ah b q y x w H J G V C S)
    ·subst w;rw [H]at J;cases J;rw [G]at V;cases V
    ·exact .inr (D q b x y w J H G (by rw [V];simp) (.inr (.inr (.inl h))))
   have aw:∀ (b:Nat) y,b<q->r[b]?=some y->y.isChg=true->y.i<tD ps:=fun b y bh H u=>by
    rw [R b y H]
    rcases ad b y H u with h | h
    ·exact h
    ·exact absurd (sW ay b q _ (au b y H) h) (by omega)
   have F:=g1 q x J aw
   have ao:∀ (k:Nat) z,r[k]?=some z->r.drop k=z::r.drop (k+1):=fun k z hz=>by
    have V:=(List.getElem?_eq_some_iff.1 hz).1;rw [List.drop_eq_getElem_cons V];rw [List.getElem?_eq_getElem V]at hz;rw [Option.some.inj hz]
   have af:∀ (d k:Nat),k+d=r.length->(∀ (b:Nat) y,b<k->r[b]?=some y->y.isChg=true->y.i<tD ps)->zX (cI l) q (fun id=>id<nD ps e.s.n/\¬ xD ps id) x.e.s (dQ (r.drop k)) (cG (r.drop k)++[f.s]):=by
    intro d
    induction d with
    | zero=>
      intro k V ac
      have X:k=r.length:=by omega
      rw [X,List.drop_length];intro s hs id B;simp only [cG,List.nil_append,List.mem_singleton]at hs;subst hs
      rw [g2 (fun z hz I=>by
       obtain ⟨b,H⟩:=List.getElem?_of_mem hz
       exact ac b z (by have:=(List.getElem?_eq_some_iff.1 H).1;omega) H I) id B.1 B.2,F id B.1 B.2]
    | succ d ih=>
      intro k V ac
      obtain ⟨z,hz⟩:∃ z,r[k]?=some z:=⟨r[k]'(by omega),by rw [List.getElem?_eq_getElem]⟩
      rw [ao k z hz]
      cases I:z.isChg with
      | true=>
        simp only [dQ,List.filter_cons,I,if_true,List.map_cons,cG,cond_true,List.cons_append];refine ⟨fun id B=>by rw [g1 k z hz ac id B.1 B.2,F id B.1 B.2],?_⟩
        rcases Nat.lt_or_ge z.i (tD ps) with h | h
        ·right
         exact ih (k+1) (by omega) fun b y H u E=>by
          rcases Nat.lt_succ_iff_lt_or_eq.1 H with H | rfl
          ·exact ac b y H u E
          ·rw [hz]at u;cases u;exact h
        ·left
         have bc:=R k z hz;intro c' an
         have:∃ (b:Nat) (y:TrE),r[b]?=some y/\y.isChg=true/\c'=b/\k<=b:=by
          rcases List.mem_cons.1 an with rfl | an
          ·exact ⟨k,z,hz,I,bc,Nat.le_refl _⟩
          ·obtain ⟨y,u,rfl⟩:=List.mem_map.1 an
           obtain ⟨bf,bg⟩:=List.mem_filter.1 u;obtain ⟨b,H⟩:=List.getElem?_of_mem bf;rw [List.getElem?_drop]at H;exact ⟨k+1+b,y,H,bg,R _ y H,by omega⟩
         obtain ⟨b,y,H,E,rfl,bi⟩:=this
         rcases ad c' y H E with g | g
         ·omega
         ·exact g
      | false=>
        simp only [dQ,List.filter_cons,I,cG,cond_false]
        exact ih (k+1) (by omega) fun b y H u E=>by
         rcases Nat.lt_succ_iff_lt_or_eq.1 H with H | rfl
         ·exact ac b y H u E
         ·rw [hz]at u;cases u;rw [I]at E;cases E
   have:=af r.length 0 (by omega) (fun b y H=>by omega)
   rwa [List.drop_zero]at this
  have af:∀ (m:List TrE),(∀ x∈m,x∈r)->lI P (aP P O N) f.s.n e.s.n (cI l) (lD r) (dQ r) (cG r++[f.s]) m=true:=by
   intro m
   induction m with
   | nil=>intro _;rfl
   | cons x m ih=>
     intro aa;simp only [lI,Bool.and_eq_true,Bool.or_eq_true];refine ⟨?_,ih (fun y u=>aa y (List.mem_cons_of_mem _ u))⟩;have ba:=aa x (List.mem_cons_self ..)
     cases I:x.chg with
     | true=>simp
     | false=>
       cases hr:x.run with
       | false=>simp
       | true=>
         rcases (h2 x ba).keep hr I with g | ⟨g,g'⟩
         ·simp [g]
         ·cases ai:fR x.o.op with
          | true=>simp
          | false=>
            obtain ⟨q,J⟩:=List.getElem?_of_mem ba;have av:=R q x J
            have ap:∀ id,exY (xD ps) (keptY (rD ps x.i e.s.n) (cI l) (nsM (cQ ps) (lD r)) x.i) id->keptY e.s.n (cI l) (lD r) x.i id:=fun id B=>by
             rcases B.1 with h | ⟨k,h,h'⟩
             ·exact .inl (Nat.lt_of_lt_of_le h aSm)
             ·refine .inr ⟨k,?_,h'⟩
              cases C:cQ ps with
              | true=>rw [C]at h;simp [nsM]at h
              | false=>rw [C]at h;exact h
            have hB:(∀ c∈dQ r,((cI l).getD q 0).testBit c=true∨((cI l).getD c 0).testBit q=true)->oX P (aP P O N) (cI l) e.s.n (lD r) (dQ r) x=true:=fun h=>by
             simp only [oX,Bool.and_eq_true,List.all_eq_true,Bool.or_eq_true,decide_eq_true_eq];refine ⟨fun c L=>by rw [av];exact h c L,fun s' hs=>g' s' fun id B=>hs id (ap id B)⟩
            have aq:∀ c y,r[c]?=some y->y.isChg=true->c≠q:=fun c y u E bb=>by
             subst bb;rw [u]at J;cases J;simp only [TrE.isChg,I,Bool.false_and]at E;cases E
            rcases aKk (qs:=qs) (ps:=ps) (i:=q) ai g with k | k
            ·cases C:cQ ps with
             | true=>
               cases S:xK ps q with
               | false=>
                 right;simp only [rO,decide_eq_true_eq];refine ⟨fun id=>id<nD ps e.s.n/\¬ xD ps id,fun id B=>Nat.lt_of_lt_of_le B.1 aEj,by rw [av];exact ab q x J k C S,fun s' hs=>g' s' fun id B=>hs id ⟨?_,B.2⟩⟩;rw [C]at B
                 rcases B.1 with h | ⟨k,h,_⟩
                 ·rw [av,rD,S]at h;exact h
                 ·simp [nsM]at h
               | true=>
                 left;right
                 refine hB fun c L=>?_
                 obtain ⟨y,u,E⟩:=M c L;have G:=(A c y u E).1
                 rcases Nat.lt_trichotomy c q with w | w | w
                 ·exact .inl (Z c q y x w u J G k (.inr S))
                 ·exact absurd w (aq c y u E)
                 ·exact .inr (D q c x y w J u G (EC ai) (.inr (.inr (.inr S))))
             | false=>
               left;right
               refine hB fun c L=>?_
               obtain ⟨y,u,E⟩:=M c L;have G:=(A c y u E).1
               rcases Nat.lt_trichotomy c q with w | w | w
               ·exact .inl (Z c q y x w u J G k (.inl C))
               ·exact absurd w (aq c y u E)
               ·exact .inr (D q c x y w J u G (EC ai) (.inl C))
            ·left;right
             refine hB fun c L=>?_
             obtain ⟨y,u,E⟩:=M c L;have G:=(A c y u E).1
             rcases Nat.lt_trichotomy c q with w | w | w
             ·exact .inl (D c q y x w u J k (by rw [G];simp) (.inr (.inl (by rw [G];simp))))
             ·exact absurd w (aq c y u E)
             ·exact .inr (D q c x y w J u G (EC ai) (.inr (.inl (by rw [k];simp))))
  unfold fI;split
  ·rfl
  ·exact af r (fun x F=>F)
 have am:(P.follows .mixedOrders&&nZ l&&fS (cI l) (dQ r)&&tG (cI l) (lD r) (dQ r)&&gZ r f.s.n&&jG r&&fI P (aP P O N) f.s.n e.s.n (cI l) r f.s)=true:=by
  simp only [hm,ay,ag,ar,h3,ak,aj,Bool.and_self]
 cases p with
 | none=>
   refine ⟨N,.normal,f,?_,h6⟩;simp only [bE,oY,cond_true,yD,h1,am]
 | some q=>
   obtain ⟨v,s⟩:=q;obtain ⟨g1,g2,g3⟩:=h6;refine ⟨N,.panic v,fT {e with s:=s} l,?_,g3⟩;simp only [Nat.zero_add]at g2;simp only [bE,oY,cond_true,yD,h1,am,g2]
end
end
end Go.Abs
