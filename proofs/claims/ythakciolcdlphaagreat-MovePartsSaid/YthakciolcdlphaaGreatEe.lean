/-
  The abstract machine: a walk through a region that draws its order.
-/
import Derived.Test.YthakciolcdlphaaGreatEc
set_option linter.unusedVariables false
set_option linter.unusedSimpArgs false
namespace Go.Abs
noncomputable section
def UnderE (n:Nat) (v:AV):Prop:=∃ d,v.under n d=true
theorem lS {n m:Nat} (h:n<=m):∀ (d k:Nat) (v:AV),d<=k->v.under n d=true->v.under m k=true:=by
 intro d
 induction d with
 | zero=>intro k v _ hv;simp [AV.under]at hv
 | succ d ih=>
   intro k v hk hv
   obtain ⟨k,rfl⟩:∃ j,k=j+1:=⟨k-1,by omega⟩
   have hl:∀ {l:List AV},l.all (AV.under n d)=true->l.all (AV.under m k)=true:=fun hl=>List.all_eq_true.2 fun x hx=>ih k x (by omega) (List.all_eq_true.1 hl x hx)
   cases v with
   | ptr i g o=>simp only [AV.under,Nat.blt_eq]at hv ⊢;omega
   | sl i g o l c=>simp only [AV.under,Nat.blt_eq]at hv ⊢;omega
   | map i=>simp only [AV.under,Nat.blt_eq]at hv ⊢;omega
   | pf v=>simp only [AV.under]at hv ⊢;exact ih k v (by omega) hv
   | iface t v=>simp only [AV.under]at hv ⊢;exact ih k v (by omega) hv
   | fz l c=>simp only [AV.under]at hv ⊢;exact hl hv
   | agg l=>simp only [AV.under]at hv ⊢;exact hl hv
   | tuple l=>simp only [AV.under]at hv ⊢;exact hl hv
   | func f a c=>
     simp only [AV.under,Bool.and_eq_true]at hv ⊢
     refine ⟨⟨?_,hl hv.1.2⟩,hl hv.2⟩
     have:=hv.1.1
     cases f<;>first | rfl | (simp only [Nat.blt_eq]at this ⊢;omega)
   | _=>rfl
theorem UnderE.mono {n m:Nat} {v:AV} (h:UnderE n v) (hn:n<=m):UnderE m v:=let ⟨d,hd⟩:=h;⟨d,lS hn d d v (Nat.le_refl _) hd⟩
theorem UnderE.und {n:Nat} {v:AV} (h:UnderE n v):Und n v:=fun σ V hV=>let ⟨d,hd⟩:=h;VR.cut d v V hd hV
theorem kD {n:Nat} {l:List AV} (h:∀ x∈l,UnderE n x):∃ d,l.all (AV.under n d)=true:=by
 induction l with
 | nil=>exact ⟨0,rfl⟩
 | cons a l ih=>
   obtain ⟨d,hd⟩:=ih fun x hx=>h x (List.mem_cons_of_mem _ hx)
   obtain ⟨k,hk⟩:=h a (List.mem_cons_self ..)
   refine ⟨max d k,List.all_eq_true.2 fun x hx=>?_⟩
   rcases List.mem_cons.1 hx with rfl | hx
   ·exact lS (Nat.le_refl n) k _ _ (Nat.le_max_right _ _) hk
   ·exact lS (Nat.le_refl n) d _ _ (Nat.le_max_left _ _) (List.all_eq_true.1 hd x hx)
theorem eM {n:Nat} {l:List AV} (h:∀ x∈l,UnderE n x):UnderE n (.agg l):=let ⟨d,hd⟩:=kD h;⟨d+1,hd⟩
theorem GO {n:Nat} {l:List AV} (h:∀ x∈l,UnderE n x):UnderE n (.tuple l):=let ⟨d,hd⟩:=kD h;⟨d+1,hd⟩
theorem UX {n:Nat} {l:List AV} {c:Bool} (h:∀ x∈l,UnderE n x):UnderE n (.fz l c):=let ⟨d,hd⟩:=kD h;⟨d+1,hd⟩
theorem jF {n:Nat} {v:AV} (h:UnderE n v):UnderE n (.pf v):=let ⟨d,hd⟩:=h;⟨d+1,hd⟩
theorem kX {n:Nat} {t:TypeId} {v:AV} (h:UnderE n v):UnderE n (.iface t v):=let ⟨d,hd⟩:=h;⟨d+1,hd⟩
theorem hG {n:Nat} {f:FuncId} {a c:List AV} (h:∀ x∈a,UnderE n x) (h':∀ x∈c,UnderE n x):UnderE n (.func (.func f) a c):=by
 obtain ⟨d,hd⟩:=kD h
 obtain ⟨k,hk⟩:=kD h'
 refine ⟨max d k+1,?_⟩
 simp only [AV.under,Bool.and_eq_true]
 exact ⟨⟨by first | rfl | trivial,List.all_eq_true.2 fun x hx=>lS (Nat.le_refl n) d _ _ (Nat.le_max_left _ _) (List.all_eq_true.1 hd x hx)⟩,List.all_eq_true.2 fun x hx=>lS (Nat.le_refl n) k _ _ (Nat.le_max_right _ _) (List.all_eq_true.1 hk x hx)⟩
def gO (n:Nat):List AV->Prop
 | []=>True
 | v::l=>UnderE n v/\gO n l
theorem gD {n:Nat}:∀ {l:List AV},gO n l↔∀ x∈l,UnderE n x
 | []=>by simp [gO]
 | v::l=>by simp only [gO,gD (l:=l),List.forall_mem_cons]
def dY (Y:Nat->Prop):AV->Prop
 | .ptr id _ _ | .map id | .sl id _ _ _ _=>Y id
 | _=>True
def BK (Y:Nat->Prop):List AV->Prop
 | []=>True
 | v::l=>dY Y v/\BK Y l
def cM (qs ps:List Nat) (i:Nat) (op:Op):Nat:=bif eU op then 0 else bif cO op then 1 else bif ps.elem i then 3 else bif qs.elem i then 2 else match op with
 | .load _ _ | .lookup _ _ _ _ | .convert _ _ _=>2
 | .call c=>(match c.callee with
   | .builtin .len | .builtin .min | .builtin .max=>2
   | _=>3)
 | _=>3
def cB:List Nat->Bool
 | 1000::_=>true
 | 1001::_=>true
 | _=>false
def tD:List Nat->Nat
 | 1000::_::t::_=>t
 | _=>1000000
def GP (ps:List Nat) (i:Nat) (op:Op):Bool:=cB ps&&(decide (i<tD ps)||cO op)
def vB (ps:List Nat) (i:Nat):Bool:=match ps with
 | 1000::_::_::r=>r.elem i
 | _=>false
def DU (ps as:List Nat) (i ki j kj:Nat):Bool:=bif Nat.beq kj 3 then Nat.beq ki 0||((cB ps&&decide (j<tD ps))&&(Nat.beq ki 2 && !vB ps i))||(as.getD j 0).testBit i else bif Nat.beq ki 3 then ((cB ps && !vB ps j)&&decide (i<tD ps)) || !Nat.beq kj 2||((!cB ps||vB ps j)&&(as.getD j 0).testBit i) else true
def rG (qs ps as:List Nat):List Oper->Nat->Bool
 | [],_=>true
 | o::rest,i=>(rest.zipIdx (i+1)).all (fun q=>DU ps as i (cM qs ps i o.op) q.2 (cM qs ps q.2 q.1.op))&&rG qs ps as rest (i+1)
def sOk (qs ps:List Nat) (ops:List Oper):Bool:=mC ops&&rG qs ps (cA ops) ops 0
def qH (a b:Nat):Nat:=Nat.min a b
def bD (ps:List Nat) (n:Nat):Nat:=match ps with
 | 1000::k::_=>qH n (k-2000)
 | 1001::k::_=>qH n (k-2000)
 | _=>n
def nD (ps:List Nat) (n:Nat):Nat:=bif cB ps then bD ps n else n
theorem aAt {ps:List Nat} {n:Nat}:nD ps n<=n:=by
 unfold nD
 cases cB ps with
 | false=>exact Nat.le_refl _
 | true=>
   show bD ps n<=n
   unfold bD
   split
   ·exact Nat.min_le_left _ _
   ·exact Nat.min_le_left _ _
   ·exact Nat.le_refl _
theorem aIg {ps:List Nat} {n:Nat} (h:cB ps=false):nD ps n=n:=by rw [nD,h];rfl
def rD (ps:List Nat) (i n:Nat):Nat:=bif vB ps i then n else nD ps n
theorem aNk {ps:List Nat} {i n:Nat}:rD ps i n<=n:=by
 unfold rD
 cases vB ps i with
 | true=>exact Nat.le_refl _
 | false=>exact aAt
theorem aGh {ps:List Nat} {i:Nat} (h:cB ps=false):vB ps i=false:=by
 unfold vB
 split
 ·cases h
 ·rfl
theorem aNl {ps:List Nat} {i n:Nat} (h:cB ps=false):rD ps i n=n:=by rw [rD,aGh h];exact aIg h
def lT (n0:Nat) (s s':Sto):Prop:=∀ id,id<n0->s'.get id=s.get id
def xD (ps:List Nat) (id:Nat):Prop:=match ps with
 | 1001::_::x::y::_=>x<=id+2000/\id+2000<y
 | _=>False
def noX (_:Nat):Prop:=False
def exY (X Y:Nat->Prop) (id:Nat):Prop:=Y id/\¬ X id
def pD (X:Nat->Prop) (n0:Nat) (s s':Sto):Prop:=∀ id,id<n0->¬ X id->s'.get id=s.get id
theorem aKa {Y:Nat->Prop}:exY noX Y=Y:=by funext id;simp [exY,noX]
theorem UY {n0:Nat} {s s':Sto}:pD noX n0 s s'=lT n0 s s':=by simp [pD,lT,noX]
theorem aNm {ps:List Nat} (h:cB ps=false):xD ps=noX:=by
 funext id
 unfold xD
 split
 ·cases h
 ·rfl
theorem JS {qs ps as:List Nat}:∀ (l:List Oper) (i:Nat),rG qs ps as l i=true->∀ (a b:Nat) (x y:Oper),a<b->l[a]?=some x->l[b]?=some y->DU ps as (i+a) (cM qs ps (i+a) x.op) (i+b) (cM qs ps (i+b) y.op)=true:=by
 intro l
 induction l with
 | nil=>intro i _ a b x y _ h;simp at h
 | cons o l ih=>
   intro i h a b x y hab hx hy
   simp only [rG,Bool.and_eq_true]at h
   cases a with
   | zero=>
     obtain ⟨b,rfl⟩:∃ c,b=c+1:=⟨b-1,by omega⟩
     simp at hx hy
     subst hx
     have:=List.all_eq_true.1 h.1 (y,i+1+b) (by rw [List.mem_iff_getElem?];exact ⟨b,by simp [List.getElem?_zipIdx,hy]⟩)
     simpa [show i+1+b=i+(b+1) by omega] using this
   | succ a=>
     obtain ⟨b,rfl⟩:∃ c,b=c+1:=⟨b-1,by omega⟩
     simp at hx hy
     have:=ih (i+1) h.2 a b x y (by omega) hx hy
     simpa [show i+1+a=i+(a+1) by omega,show i+1+b=i+(b+1) by omega] using this
section
variable (P:Program) (O:bN)
def vK (K:ORes->Prop):ORes->Prop
 | .val v=>K (.val v)
 | _=>False
def cK (n:Nat) (K:ORes->Prop):ORes->Prop
 | .val' v s=>n<=s.n/\K (.val' v s)
 | .pan v s=>n<=s.n/\K (.pan v s)
 | _=>False
def cF (F:Sto->Option ORes) (Y:Nat->Prop) (s:Sto) (K:ORes->Prop):ORes->Prop
 | .val v=>(∀ s',(∀ id,Y id->s'.get id=s.get id)->F s'=some (.val v))/\K (.val v)
 | .val' v s'=>s.n<=s'.n/\K (.val' v s')
 | .pan v s'=>s.n<=s'.n/\K (.pan v s')
 | _=>False
def CU (F:Sto->Option CRes) (r:Option CRes) (turns:Prop) (s:Sto) (K:ORes->Prop):Prop:=match r with
 | some (.ret v none)=>(∀ s',F s'=some (.ret v none))/\K (.val v)
 | some (.ret v (some s'))=>turns/\s.n<=s'.n/\K (.val' v s')
 | some (.pan v none)=>turns/\K (.pan v s)
 | some (.pan v (some s'))=>turns/\s.n<=s'.n/\K (.pan v s')
 | none=>False
def yK (n:Nat) (K:ORes->Prop):CRes->Prop
 | .ret v (some s')=>n<=s'.n/\K (.val' v s')
 | .pan v (some s')=>n<=s'.n/\K (.pan v s')
 | _=>True
def tE (kd:Nat) (fv:AV) (args:List AV) (s:Sto) (K:ORes->Prop):Prop:=match fv with
 | .func (.func g) first cap=>CU (O g (first++args++cap)) (O g (first++args++cap) s) (kd=3/\gO s.n (.func (.func g) first cap::args)) s K
 | .func (.yield l) first cap=>(kd=3/\gO s.n (.func (.yield l) first cap::args))/\Wcall P O (.func (.yield l) first cap) args s (yK s.n K)
 | _=>False
def sD (kd:Nat) (Y:Nat->Prop) (op:Op) (e:Env) (K:ORes->Prop):Prop:=match op with
 | .load ty a=>dY Y (e.eval a)/\lV (eB P e.s ty (e.eval a)) K
 | .lookup ty m k ok=>dY Y (e.eval m)/\lV (alookup P e.s ty (e.eval m) (e.eval k) ok) K
 | .convert src dst x=>dY Y (e.eval x)/\qI (iB P e.s src dst (e.eval x)) (vK K)
 | .store ty a x=>(kd=3/\gO e.s.n [e.eval a,e.eval x])/\KG (kM P e.s ty (e.eval a) (e.eval x)) (cK e.s.n K)
 | .mapUpdate ty m k x=>(kd=3/\gO e.s.n [e.eval m,e.eval k,e.eval x])/\KG (dO P e.s ty (e.eval m) (e.eval k) (e.eval x)) (cK e.s.n K)
 | .alloc ty=>iM (aX P ty) e.s K
 | .box _ x=>gO e.s.n [e.eval x]/\vI (e.eval x) e.s K
 | .buildSlice ty len parts=>gO e.s.n (parts.toList.map fun p=>e.eval p.2)/\dH P O (.buildSlice ty len parts) e K
 | .makeSlice ty l c=>gO e.s.n [e.eval l,e.eval c]/\dH P O (.makeSlice ty l c) e K
 | .call c=>(match c.callee with
   | .builtin .len=>BK Y (c.args.toList.map e.eval)/\qI (aV P e.s .len c.argTypes (c.args.toList.map e.eval)) (vK K)
   | .builtin .min=>qI (aV P e.s .min c.argTypes (c.args.toList.map e.eval)) (vK K)
   | .builtin .max=>qI (aV P e.s .max c.argTypes (c.args.toList.map e.eval)) (vK K)
   | .builtin b=>(kd=3/\gO e.s.n (c.args.toList.map e.eval))/\qI (aV P e.s b c.argTypes (c.args.toList.map e.eval)) (cF (fun s'=>aV P s' b c.argTypes (c.args.toList.map e.eval)) Y e.s K)
   | .value f=>tE P O kd (e.eval f) (c.args.toList.map e.eval) e.s K
   | .invoke _ _=>False)
 | op=>eU op=true/\dH P O op e K
def tW (dst:Option Tmp) (e:Env) (md:Bool) (n0:Nat) (X:Nat->Prop) (nw:Bool) (i:Nat) (N:List (Nat × Nat)) (next:List (Nat × Nat)->Env->Prop) (pn:AV->Sto->Prop):ORes->Prop
 | .val v=>∃ e',e.put dst v=some e'/\next N e'
 | .val' v s=>(md=true->pD X n0 e.s s)/\∃ e',(e.setS s).put dst v=some e'/\next (bif nw then (i,e.s.n)::N else N) e'
 | .pan v s=>(md=true->pD X n0 e.s s)/\pn v s
 | _=>False
def GQ (ops:List Oper) (e0:Env) (Q:Ex->Env->Prop) (i:Nat) (v:AV) (s:Sto):Prop:=iT (cA ops) i ops 0=true/\Q (.panic v) (eW {e0 with s:=s} ops)
def fM (v:AV) (want:Bool) (kd:Nat) (Y:Nat->Prop) (op:Op) (e:Env) (K:ORes->Prop):Prop:=match v with
 | .bool b=>(b=want->sD P O kd Y op e K)/\(b = !want->K (.val .undef))
 | .tuple _=>K (.val .undef)
 | _=>False
def Wd (qs ps:List Nat) (ops:List Oper) (e0:Env) (Q:Ex->Env->Prop):List Oper->Nat->List (Nat × Nat)->Env->Prop
 | [],_,_,e=>Q .normal e
 | o::rest,i,N,e=>match o.guard with
   | none=>sD P O (cM qs ps i o.op) (exY (xD ps) (keptY (rD ps i e0.s.n) (cA ops) (bif cB ps then [] else N) i)) o.op e (tW o.dst e (GP ps i o.op) (nD ps e0.s.n) (xD ps) (cO o.op) i N (fun N e=>Wd qs ps ops e0 Q rest (i+1) N e) (GQ ops e0 Q i))
   | some (j,want)=>fM P O (VJ e.t (CY ops j)) want (cM qs ps i o.op) (exY (xD ps) (keptY (rD ps i e0.s.n) (cA ops) (bif cB ps then [] else N) i)) o.op e (tW o.dst e (GP ps i o.op) (nD ps e0.s.n) (xD ps) (cO o.op) i N (fun N e=>Wd qs ps ops e0 Q rest (i+1) N e) (GQ ops e0 Q i))
variable {P O}
def RowD (P:Program) (call:bL) (qs ps:List Nat) (Y:Nat->Prop) (i:Nat) (o:Oper) (e:Env):ORes->Prop
 | .val v=>eU o.op=true∨(cO o.op=false/\∀ s',(∀ id,Y id->s'.get id=e.s.get id)->gC P call o {e with s:=s'} = some (.val v))
 | .val' _ s'=>(cO o.op=true∨cM qs ps i o.op=3)/\(∀ y∈o.op.operands.toList,UnderE e.s.n (e.eval y))/\e.s.n<=s'.n/\eU o.op=false
 | .pan _ s'=>(cO o.op=false/\cM qs ps i o.op=3)/\(∀ y∈o.op.operands.toList,UnderE e.s.n (e.eval y))/\e.s.n<=s'.n/\eU o.op=false
 | _=>False
theorem RowD.mono {c d:bL} (h:CLe c d) {qs ps:List Nat} {Y:Nat->Prop} {i:Nat} {o:Oper} {e:Env} {r:ORes} (hr:RowD P c qs ps Y i o e r):RowD P d qs ps Y i o e r:=by
 cases r with
 | val v=>
   rcases hr with h1 | ⟨h1,h2⟩
   ·exact .inl h1
   ·exact .inr ⟨h1,fun s' hs=>iL h (h2 s' hs)⟩
 | _=>exact hr
theorem jG (e:Env) (s:Sto) (x:Operand):({e with s:=s}:Env).eval x=e.eval x:=by cases x<;>rfl
theorem OG {s s':Sto} {ty:TypeId} {a:AV} {n:Nat->Prop} (hs:dY n a) (h:∀ id,n id->s'.get id=s.get id):eB P s' ty a=eB P s ty a:=by
 cases a with
 | ptr id g off=>simp only [dY]at hs;simp only [eB,h id hs]
 | _=>rfl
theorem GR {s s':Sto} {ty:TypeId} {m k:AV} {ok:Bool} {n:Nat->Prop} (hs:dY n m) (h:∀ id,n id->s'.get id=s.get id):alookup P s' ty m k ok=alookup P s ty m k ok:=by
 cases m with
 | map id=>simp only [dY]at hs;simp only [alookup,h id hs]
 | _=>rfl
theorem JT {s s':Sto} {k m:Nat} {a:AV} {n:Nat->Prop} (hs:dY n a) (h:∀ id,n id->s'.get id=s.get id):dI s' k m a=dI s k m a:=by
 cases a with
 | sl id g off len c=>simp only [dY]at hs;simp only [dI,h id hs]
 | _=>rfl
theorem OH {s s':Sto} {src dst:TypeId} {a v:AV} {n:Nat->Prop} (hs:dY n a) (h:∀ id,n id->s'.get id=s.get id) (hr:iB P s src dst a=some (.val v)):iB P s' src dst a=some (.val v):=by
 unfold iB at hr ⊢
 split at hr
 ·exact hr
 ·exact hr
 ·exfalso
  split at hr
  ·split at hr<;>cases hr
  ·cases hr
 ·rename_i h1 h2 h3
  split at hr
  ·rename_i q1 q2
   rw [JT hs h]
   exact hr
  ·cases hr
 ·cases hr
theorem vC {s s':Sto} {ts:Array TypeId} {l:List AV} {n:Nat->Prop} (hs:BK n l) (h:∀ id,n id->s'.get id=s.get id):aV P s' .len ts l=aV P s .len ts l:=by
 simp only [aV]
 cases ts[0]? with
 | none=>rcases l with _ | ⟨x,_ | ⟨y,l⟩⟩<;>first | rfl | (cases x<;>rfl)
 | some t=>
   simp only
   cases P.underlying t with
   | none=>rcases l with _ | ⟨x,_ | ⟨y,l⟩⟩<;>first | rfl | (cases x<;>rfl)
   | some d=>
     rcases l with _ | ⟨x,_ | ⟨y,l⟩⟩
     ·cases d<;>rfl
     ·cases x with
      | map id=>
        have:=h id hs.1
        cases d<;>first | rfl | (simp only [this])
      | _=>cases d<;>rfl
     ·cases d<;>first | rfl | (cases x<;>rfl)
theorem dK {n:Nat} {e:Env} {l:List Operand} (h:gO n (l.map e.eval)):∀ y∈l,UnderE n (e.eval y):=fun y hy=>gD.1 h _ (List.mem_map.2 ⟨y,hy,rfl⟩)
theorem lU {s:Sto} {l:Nat} {j:Option Code} {e:Env} {res:CRes} {rr:ARec} (h:dD s l j e=some (res,rr)):rr=.no/\∃ v s',res=.ret v (some s'):=by
 unfold dD at h
 split at h
 ·cases h;exact ⟨rfl,_,_,rfl⟩
 ·cases h
theorem JU {n l:Nat} {first cap args:List AV} {s:Sto} {res:CRes} {rr:ARec} (h:aO P O n (.func (.yield l) first cap) args s .no=some (res,rr)):rr=.no/\((∃ v s',res=.ret v (some s'))∨∃ v s',res=.pan v (some s')):=by
 cases n with
 | zero=>cases h
 | succ n=>
   change kO P (aO P O n) n l (first++args) s=some (res,rr) at h
   unfold kO at h
   split at h
   ·split at h
    ·split at h
     ·split at h
      ·split at h
       ·obtain ⟨h1,h2⟩:=lU h;exact ⟨h1,.inl h2⟩
       ·obtain ⟨h1,h2⟩:=lU h;exact ⟨h1,.inl h2⟩
       ·obtain ⟨h1,h2⟩:=lU h;exact ⟨h1,.inl h2⟩
       ·split at h
        ·rename_i e _ _ _
         cases hk:okFn P e.fn with
         | true=>rw [hk]at h;cases h;exact ⟨rfl,.inr ⟨_,_,rfl⟩⟩
         | false=>rw [hk]at h;cases h
        ·cases h
       ·cases h
      ·cases h
     ·cases h
    ·cases h
   ·cases h
theorem aGi {qs ps:List Nat} {Y:Nat->Prop} {i:Nat} {o:Oper} {e:Env} {K:ORes->Prop} (h:sD P O (cM qs ps i o.op) Y o.op e K):
 ∃ N r,gC P (aO P O N) o e=some r/\K r/\RowD P (aO P O N) qs ps Y i o e r:=by
 have hop:∀ N,gC P (aO P O N) o e=dR P (aO P O N) o.op e:=fun _=>rfl
 have hopS:∀ N s',gC P (aO P O N) o {e with s:=s'} = dR P (aO P O N) o.op {e with s:=s'}:=fun _ _=>rfl
 obtain ⟨dst,op,ty0,pos,after,guard⟩:=o
 simp only at h hop hopS
 have hpure:eU op=true->dH P O op e K->∃ N r,gC P (aO P O N) {dst:=dst,op:=op,type:=ty0,pos:=pos,after:=after,guard:=guard} e=some r/\K r/\RowD P (aO P O N) qs ps Y i {dst:=dst,op:=op,type:=ty0,pos:=pos,after:=after,guard:=guard} e r:=by
  rintro hp ⟨N,r,h1,h2⟩
  obtain ⟨⟨v,rfl⟩,_⟩:=LA (P:=P) (call:=aO P O N) (o:={dst:=dst,op:=op,type:=ty0,pos:=pos,after:=after,guard:=guard}) (e:=e) hp h1
  exact ⟨N,_,h1,h2,.inl hp⟩
 have hnew:cO op=true->(∀ y∈op.operands.toList,UnderE e.s.n (e.eval y))->dH P O op e K->∃ N r,gC P (aO P O N) {dst:=dst,op:=op,type:=ty0,pos:=pos,after:=after,guard:=guard} e=some r/\K r/\RowD P (aO P O N) qs ps Y i {dst:=dst,op:=op,type:=ty0,pos:=pos,after:=after,guard:=guard} e r:=by
  rintro hp hu ⟨N,r,h1,h2⟩
  obtain ⟨v,x,rfl,_⟩:=HO (P:=P) (call:=aO P O N) (o:={dst:=dst,op:=op,type:=ty0,pos:=pos,after:=after,guard:=guard}) (e:=e) hp h1
  refine ⟨N,_,h1,h2,.inl hp,hu,by simp,?_⟩
  show eU op=false
  cases op<;>first | rfl | cases hp
 cases op with
 | load ty a=>
   obtain ⟨hs,v,h1,h2⟩:=h
   exact ⟨0,.val v,by show valO _=_;rw [h1];rfl,h2,.inr ⟨rfl,fun s' hs'=>by show valO (eB P s' ty (({e with s:=s'}:Env).eval a))=_;rw [jG,OG hs hs',h1];rfl⟩⟩
 | lookup ty m k ok=>
   obtain ⟨hs,v,h1,h2⟩:=h
   exact ⟨0,.val v,by show valO _=_;rw [h1];rfl,h2,.inr ⟨rfl,fun s' hs'=>by show valO (alookup P s' ty (({e with s:=s'}:Env).eval m) (({e with s:=s'}:Env).eval k) ok)=_;rw [jG e s' m,jG e s' k,GR hs hs',h1];rfl⟩⟩
 | convert src dst' x=>
   obtain ⟨hs,r,h1,h2⟩:=h
   cases r with
   | val v=>exact ⟨0,.val v,h1,h2,.inr ⟨rfl,fun s' hs'=>by show iB P s' src dst' (({e with s:=s'}:Env).eval x)=_;rw [jG];exact OH hs hs' h1⟩⟩
   | _=>exact h2.elim
 | store ty a x=>
   obtain ⟨⟨hk,hu⟩,s',h1,h2⟩:=h
   obtain ⟨h2,h3⟩:=h2
   exact ⟨0,.val' .undef s',by show skipO _=_;rw [h1];rfl,h3,.inr hk,dK (l:=[a,x]) hu,h2,rfl⟩
 | mapUpdate ty m k x=>
   obtain ⟨⟨hk,hu⟩,s',h1,h2⟩:=h
   obtain ⟨h2,h3⟩:=h2
   exact ⟨0,.val' .undef s',by show skipO _=_;rw [h1];rfl,h3,.inr hk,dK (l:=[m,k,x]) hu,h2,rfl⟩
 | alloc ty=>exact hnew rfl (fun y hy=>nomatch hy) (DX.2 h)
 | box ty x=>exact hnew rfl (dK (l:=[x]) h.1) (RP.2 h.2)
 | buildSlice ty len parts=>
   refine hnew rfl ?_ h.2
   have:=h.1
   rw [show (parts.toList.map fun p=>e.eval p.2)=(parts.toList.map (·.2)).map e.eval by rw [List.map_map];rfl]at this
   exact dK this
 | makeSlice ty l c=>exact hnew rfl (dK (l:=[l,c]) h.1) h.2
 | call c=>
   obtain ⟨callee,args,ts⟩:=c
   cases callee with
   | value f=>
     simp only [sD]at h
     unfold tE at h
     split at h
     ·rename_i g first cap hf
      have hdop:∀ (s:Sto) (x:CRes),O g (first++args.toList.map e.eval++cap) s=some x->eT s (aO P O 1 (({e with s:=s}:Env).eval f) (eE {e with s:=s} args) s .no)=eT s (some (x,.no)):=by
       intro s x hx
       have h1:eE {e with s:=s} args=args.toList.map e.eval:=by
        simp only [eE]
        exact List.map_congr_left fun y _=>jG e s y
       rw [jG,h1,hf]
       simp only [aO,CN,hx]
      generalize hr:O g (first++args.toList.map e.eval++cap) e.s=r at h
      have hund:(cM qs ps i (.call {callee:=.value f,args:=args,argTypes:=ts})=3/\gO e.s.n (.func (.func g) first cap::args.toList.map e.eval))->∀ y∈(Op.call {callee:=.value f,args:=args,argTypes:=ts}).operands.toList,UnderE e.s.n (e.eval y):=by
       rintro ⟨_,hu⟩ y hy
       have:y=f∨y∈args.toList:=by simpa [Op.operands,Call.operands] using hy
       rcases this with rfl | hy
       ·rw [hf];exact hu.1
       ·exact dK hu.2 y hy
      cases r with
      | none=>exact h.elim
      | some x=>
        have h0:=hdop e.s x hr
        cases x with
        | ret v so=>
          cases so with
          | none=>
            obtain ⟨hF,hK⟩:=h
            exact ⟨1,.val v,h0,hK,.inr ⟨rfl,fun s' _=>hdop s' _ (hF s')⟩⟩
          | some s'=>
            obtain ⟨ht,hn,hK⟩:=h
            exact ⟨1,.val' v s',h0,hK,.inr ht.1,hund ht,hn,rfl⟩
        | pan v so=>
          cases so with
          | none=>
            obtain ⟨ht,hK⟩:=h
            exact ⟨1,.pan v e.s,h0,hK,⟨rfl,ht.1⟩,hund ht,Nat.le_refl _,rfl⟩
          | some s'=>
            obtain ⟨ht,hn,hK⟩:=h
            exact ⟨1,.pan v s',h0,hK,⟨rfl,ht.1⟩,hund ht,hn,rfl⟩
     ·rename_i l first cap hf
      obtain ⟨⟨hk,hu⟩,N,res,rr,h1,h2⟩:=h
      have hund:∀ y∈(Op.call {callee:=.value f,args:=args,argTypes:=ts}).operands.toList,UnderE e.s.n (e.eval y):=by
       intro y hy
       have:y=f∨y∈args.toList:=by simpa [Op.operands,Call.operands] using hy
       rcases this with rfl | hy
       ·rw [hf];exact hu.1
       ·exact dK hu.2 y hy
      have h0:eT e.s (aO P O N (e.eval f) (eE e args) e.s .no)=eT e.s (some (res,rr)):=by rw [hf];exact congrArg _ h1
      obtain ⟨rfl,⟨v,s',rfl⟩ | ⟨v,s',rfl⟩⟩:=JU h1
      ·exact ⟨N,.val' v s',h0,h2.2,.inr hk,hund,h2.1,rfl⟩
      ·exact ⟨N,.pan v s',h0,h2.2,⟨rfl,hk⟩,hund,h2.1,rfl⟩
     ·exact h.elim
   | invoke f n=>exact h.elim
   | builtin b=>
     have hev:∀ s',eE {e with s:=s'} args=args.toList.map e.eval:=fun s'=>List.map_congr_left fun y _=>jG e s' y
     have hch:(cM qs ps i (.call {callee:=.builtin b,args:=args,argTypes:=ts})=3/\gO e.s.n (args.toList.map e.eval))/\qI (aV P e.s b ts (args.toList.map e.eval)) (cF (fun s'=>aV P s' b ts (args.toList.map e.eval)) Y e.s K)->
      ∃ N r,gC P (aO P O N) {dst:=dst,op:=.call {callee:=.builtin b,args:=args,argTypes:=ts},type:=ty0,pos:=pos,after:=after,guard:=guard} e=some r/\K r/\RowD P (aO P O N) qs ps Y i {dst:=dst,op:=.call {callee:=.builtin b,args:=args,argTypes:=ts},type:=ty0,pos:=pos,after:=after,guard:=guard} e r:=by
      rintro ⟨⟨hk,hu⟩,r,h1,h2⟩
      have hu':∀ y∈(Op.call {callee:=.builtin b,args:=args,argTypes:=ts}).operands.toList,UnderE e.s.n (e.eval y):=fun y hy=>dK hu y (by simpa [Op.operands,Call.operands] using hy)
      cases r with
      | val v=>exact ⟨0,.val v,h1,h2.2,.inr ⟨rfl,fun s' hs'=>by
       show aV P s' b ts (eE {e with s:=s'} args)=_
       rw [hev];exact h2.1 s' hs'⟩⟩
      | val' v s'=>exact ⟨0,_,h1,h2.2,.inr hk,hu',h2.1,rfl⟩
      | pan v s'=>exact ⟨0,_,h1,h2.2,⟨rfl,hk⟩,hu',h2.1,rfl⟩
      | _=>exact h2.elim
     have hmm:∀ {b:Builtin},(b=.min∨b=.max)->qI (aV P e.s b ts (args.toList.map e.eval)) (vK K)->
      ∃ N r,gC P (aO P O N) {dst:=dst,op:=.call {callee:=.builtin b,args:=args,argTypes:=ts},type:=ty0,pos:=pos,after:=after,guard:=guard} e=some r/\K r/\RowD P (aO P O N) qs ps Y i {dst:=dst,op:=.call {callee:=.builtin b,args:=args,argTypes:=ts},type:=ty0,pos:=pos,after:=after,guard:=guard} e r:=by
      rintro b hb ⟨r,h1,h2⟩
      cases r with
      | val v=>
        refine ⟨0,.val v,h1,h2,.inr ⟨rfl,fun s' hs'=>?_⟩⟩
        show aV P s' b ts (eE {e with s:=s'} args)=_
        rw [hev]
        rcases hb with rfl | rfl<;>exact h1
      | _=>exact h2.elim
     cases b with
     | len=>
       obtain ⟨hs,r,h1,h2⟩:=h
       cases r with
       | val v=>
         refine ⟨0,.val v,h1,h2,.inr ⟨rfl,fun s' hs'=>?_⟩⟩
         show aV P s' .len ts (eE {e with s:=s'} args)=_
         rw [hev,vC hs hs'];exact h1
       | _=>exact h2.elim
     | min=>exact hmm (.inl rfl) h
     | max=>exact hmm (.inr rfl) h
     | _=>exact hch h
 | _=>exact hpure h.1 h.2
structure RowI (P:Program) (call:bL) (qs ps:List Nat) (n0:Nat) (as:List Nat) (ns:List (Nat × Nat)) (x:TrE):Prop where
 keep:x.run=true->x.chg=false->eU x.o.op=true∨(cO x.o.op=false/\PX P call (exY (xD ps) (keptY n0 as ns x.i)) x)
 chg:x.chg=true->(cO x.o.op=true∨cM qs ps x.i x.o.op=3)/\(∀ y∈x.o.op.operands.toList,UnderE x.e.s.n (x.e.eval y))/\eU x.o.op=false/\x.run=true
theorem RowI.mono {c d:bL} (h:CLe c d) {qs ps:List Nat} {n0:Nat} {as:List Nat} {ns:List (Nat × Nat)} {x:TrE} (hr:RowI P c qs ps n0 as ns x):RowI P d qs ps n0 as ns x:=
 ⟨fun h1 h2=>(hr.keep h1 h2).imp id fun ⟨g1,g2⟩=>⟨g1,fun s' hs=>iL h (g2 s' hs)⟩,hr.chg⟩
theorem keptY.more {n0:Nat} {as:List Nat} {ns ns':List (Nat × Nat)} (h:∀ n∈ns,n∈ns') {i id:Nat} (hy:keptY n0 as ns i id):keptY n0 as ns' i id:=hy.imp (fun h=>h) fun ⟨k,h1,h2⟩=>⟨k,h _ h1,h2⟩
theorem RowI.more {c:bL} {qs ps:List Nat} {n0:Nat} {as:List Nat} {ns ns':List (Nat × Nat)} {x:TrE} (h:∀ n∈ns,n∈ns') (hr:RowI P c qs ps n0 as ns x):RowI P c qs ps n0 as ns' x:=
 ⟨fun h1 h2=>(hr.keep h1 h2).imp id fun ⟨g1,g2⟩=>⟨g1,fun s' hs=>g2 s' fun id hid=>hs id ⟨hid.1.more h,hid.2⟩⟩,hr.chg⟩
def nsM (md:Bool) (ns:List (Nat × Nat)):List (Nat × Nat):=bif md then [] else ns
theorem RL {md:Bool} {a b:List (Nat × Nat)} (h:∀ n∈a,n∈b):∀ n∈nsM md a,n∈nsM md b:=by cases md<;>simp [nsM];exact fun x y hx=>h _ hx
def keepT (ps:List Nat) (n0:Nat) (l:List TrE) (f e:Env):Prop:=cB ps=true->n0<=e.s.n->(∀ (q:Nat) x,l[q]?=some x->(∀ (p:Nat) z,p<q->l[p]?=some z->z.isChg=true->z.i<tD ps)->∀ id,id<n0->¬ xD ps id->x.e.s.get id=e.s.get id)/\((∀ z∈l,z.isChg=true->z.i<tD ps)->∀ id,id<n0->¬ xD ps id->f.s.get id=e.s.get id)
theorem aAx {qs ps:List Nat} {ops:List Oper} {e0:Env} {Q:Ex->Env->Prop}:∀ (rest:List Oper) (i:Nat) (N0:List (Nat × Nat)) (e:Env),Wd P O qs ps ops e0 Q rest i N0 e->
 ∃ N l f p,zL P (aO P O N) ops rest i e=some (l,f,p)/\(∀ x∈l,RowI P (aO P O N) qs ps (rD ps x.i e0.s.n) (cA ops) (nsM (cB ps) (N0++jL l)) x)/\gB l f.s.n=true/\(∀ x,l.head?=some x->x.e.s.n=e.s.n)/\(l=[]->f.s.n=e.s.n)/\
   keepT ps (nD ps e0.s.n) l f e/\(match (p:Option (AV × Sto)) with
    | none=>Q .normal f
    | some (v,s)=>0<l.length/\iT (cA ops) (i+l.length-1) ops 0=true/\Q (.panic v) (eW {e0 with s:=s} ops)):=by
 intro rest
 induction rest with
 | nil=>intro i N0 e h;exact ⟨0,[],e,none,rfl,by simp,rfl,by simp,by simp,fun _ _=>⟨by simp,fun _ _ _ _=>rfl⟩,h⟩
 | cons o rest ih=>
   intro i N0 e h
   have row:∀ {x:TrE} {e':Env} {N1:List (Nat × Nat)},x.i=i->x.o=o->x.e=e->(∀ n∈N1,n∈N0∨n∈jL [x])->(cB ps=true->(x.isChg=true->x.i<tD ps)->nD ps e0.s.n<=e.s.n->pD (xD ps) (nD ps e0.s.n) e.s e'.s)->(∃ N,RowI P (aO P O N) qs ps (rD ps x.i e0.s.n) (cA ops) (nsM (cB ps) N0) x/\∀ M,N<=M->∀ z,zL P (aO P O M) ops rest (i+1) e'=some z->zL P (aO P O M) ops (o::rest) i e=nM x (some z))->e.s.n<=e'.s.n->
    Wd P O qs ps ops e0 Q rest (i+1) N1 e'->∃ N l f p,zL P (aO P O N) ops (o::rest) i e=some (l,f,p)/\(∀ x∈l,RowI P (aO P O N) qs ps (rD ps x.i e0.s.n) (cA ops) (nsM (cB ps) (N0++jL l)) x)/\gB l f.s.n=true/\(∀ x,l.head?=some x->x.e.s.n=e.s.n)/\(l=[]->f.s.n=e.s.n)/\
     keepT ps (nD ps e0.s.n) l f e/\(match (p:Option (AV × Sto)) with
      | none=>Q .normal f
      | some (v,s)=>0<l.length/\iT (cA ops) (i+l.length-1) ops 0=true/\Q (.panic v) (eW {e0 with s:=s} ops)):=by
    rintro x e' N1 rfl rfl rfl hN1 hkp ⟨N,hrow,hd⟩ hn hw
    obtain ⟨M,l,f,p,h1,h2,h3,h4,h5,hkt,h6⟩:=ih _ _ _ hw
    have hnews:∀ m:List TrE,jL (x::m)=jL [x]++jL m:=fun m=>by simp only [jL,List.filter_cons];cases x.isNew<;>simp
    have hc1:CLe (aO P O N) (aO P O (max N M)):=fO _ _ (Nat.le_max_left _ _)
    have hc2:CLe (aO P O M) (aO P O (max N M)):=fO _ _ (Nat.le_max_right _ _)
    refine ⟨max N M,x::l,f,p,?_,?_,?_,?_,by simp,?_,?_⟩
    ·rw [hd _ (Nat.le_max_left _ _) _ (KD hc2 _ _ _ _ h1)];rfl
    ·intro y hy
     rcases List.mem_cons.1 hy with rfl | hy
     ·exact (hrow.mono hc1).more (RL fun n hn=>List.mem_append.2 (.inl hn))
     ·refine ((h2 y hy).mono hc2).more (RL fun n hn=>?_)
      rw [hnews]
      simp only [List.mem_append]at hn ⊢
      rcases hn with hn | hn
      ·rcases hN1 n hn with h | h
       ·exact .inl h
       ·exact .inr (.inl h)
      ·exact .inr (.inr hn)
    ·cases l with
     | nil=>simp only [gB,Nat.ble_eq];rw [h5 rfl];exact hn
     | cons y l=>
       simp only [gB,Bool.and_eq_true,Nat.ble_eq]
       exact ⟨by rw [h4 y rfl];exact hn,h3⟩
    ·intro y hy;simp at hy;subst hy;rfl
    ·intro hm hle
     obtain ⟨g1,g2⟩:=hkt hm (Nat.le_trans hle hn)
     refine ⟨fun q y hy hno id hid hx=>?_,fun hno id hid hx=>(g2 (fun z hz=>hno z (List.mem_cons_of_mem _ hz)) id hid hx).trans (hkp hm (hno x (List.mem_cons_self ..)) hle id hid hx)⟩
     cases q with
     | zero=>simp at hy;subst hy;rfl
     | succ q=>exact (g1 q y (by simpa using hy) (fun p z hp hz=>hno (p+1) z (by omega) (by simpa using hz)) id hid hx).trans (hkp hm (hno 0 x (by omega) rfl) hle id hid hx)
    ·cases p with
     | none=>exact h6
     | some q=>
       obtain ⟨v,s⟩:=q
       obtain ⟨g1,g2,g3⟩:=h6
       refine ⟨by simp,?_,g3⟩
       simp only [List.length_cons]
       rw [show x.i+(l.length+1)-1=x.i+1+l.length-1 by omega]
       exact g2
   have run:∀ (hw:cD ops o e=some true),sD P O (cM qs ps i o.op) (exY (xD ps) (keptY (rD ps i e0.s.n) (cA ops) (bif cB ps then [] else N0) i)) o.op e (tW o.dst e (GP ps i o.op) (nD ps e0.s.n) (xD ps) (cO o.op) i N0 (fun N e=>Wd P O qs ps ops e0 Q rest (i+1) N e) (GQ ops e0 Q i))->
    ∃ N l f p,zL P (aO P O N) ops (o::rest) i e=some (l,f,p)/\(∀ x∈l,RowI P (aO P O N) qs ps (rD ps x.i e0.s.n) (cA ops) (nsM (cB ps) (N0++jL l)) x)/\gB l f.s.n=true/\(∀ x,l.head?=some x->x.e.s.n=e.s.n)/\(l=[]->f.s.n=e.s.n)/\
      keepT ps (nD ps e0.s.n) l f e/\(match (p:Option (AV × Sto)) with
       | none=>Q .normal f
       | some (v,s)=>0<l.length/\iT (cA ops) (i+l.length-1) ops 0=true/\Q (.panic v) (eW {e0 with s:=s} ops)):=by
    intro hw hs
    obtain ⟨N,r,h1,h2,h3⟩:=aGi hs
    have hop:∀ M,N<=M->gC P (aO P O M) o e=some r:=fun M hM=>iL (fO _ _ hM) h1
    cases r with
    | val v=>
      obtain ⟨e',hp,hn⟩:=h2
      refine row (x:={i,o,e,v,run:=true,chg:=false}) rfl rfl rfl (fun n hn=>.inl hn) (fun _ _ _ id _ _=>by
       have:e'.s=e.s:=by
        cases hd:o.dst with
        | none=>rw [hd]at hp;simp [Env.put]at hp;subst hp;rfl
        | some d=>
          rw [hd]at hp
          simp only [Env.put]at hp
          rw [dL]at hp
          split at hp
          ·simp at hp;subst hp;rfl
          ·cases hp
       rw [this]) ⟨N,⟨fun _ _=>h3,fun h=>(by cases h)⟩,fun M hM z hz=>by simp only [zL,hw,hop M hM,hp,hz]⟩ ?_ hn
      cases hd:o.dst with
      | none=>rw [hd]at hp;simp [Env.put]at hp;subst hp;exact Nat.le_refl _
      | some d=>
        rw [hd]at hp
        simp only [Env.put]at hp
        rw [dL]at hp
        split at hp
        ·simp at hp;subst hp;exact Nat.le_refl _
        ·cases hp
    | val' v s'=>
      obtain ⟨hkeep,e',hp,hn⟩:=h2
      obtain ⟨q1,q2,q3,q4⟩:=h3
      have hes:e'.s=s':=by
       cases hd:o.dst with
       | none=>rw [hd]at hp;simp [Env.put]at hp;subst hp;rfl
       | some d=>
         rw [hd]at hp
         simp only [Env.put,Env.setS]at hp
         rw [dL]at hp
         split at hp
         ·simp at hp;subst hp;rfl
         ·cases hp
      refine row (x:={i,o,e,v,run:=true,chg:=true}) rfl rfl rfl (fun n hn=>by
       cases hnw:cO o.op with
       | false=>rw [hnw]at hn;exact .inl hn
       | true=>
         rw [hnw]at hn
         rcases List.mem_cons.1 hn with rfl | hn
         ·right;simp [jL,List.filter_cons,TrE.isNew,hnw]
         ·exact .inl hn) (fun hm hc _=>by
         rw [hes]
         refine hkeep ?_
         have hc':cO o.op=false->i<tD ps:=fun h=>hc (by simp [TrE.isChg,h])
         simp only [GP,hm,Bool.true_and]
         cases hnw:cO o.op with
         | true=>simp
         | false=>simp [hc' hnw]) ⟨N,⟨fun _ h=>(by cases h),fun _=>⟨q1,q2,q4,rfl⟩⟩,fun M hM z hz=>by simp only [zL,hw,hop M hM,hp,hz]⟩ ?_ hn
      have:e'.s=s':=by
       cases hd:o.dst with
       | none=>rw [hd]at hp;simp [Env.put]at hp;subst hp;rfl
       | some d=>
         rw [hd]at hp
         simp only [Env.put,Env.setS]at hp
         rw [dL]at hp
         split at hp
         ·simp at hp;subst hp;rfl
         ·cases hp
      rw [this];exact q3
    | pan v s'=>
      obtain ⟨q1,q2,q3,q4⟩:=h3
      obtain ⟨hkeep,g1,g2⟩:=h2
      refine ⟨N,[{i,o,e,v,run:=true,chg:=true}],{e with s:=s'},some (v,s'),by simp only [zL,hw,h1],?_,?_,?_,by simp,fun hm _=>⟨fun q x hx _=>by
       cases q with
       | zero=>simp at hx;subst hx;exact fun _ _ _=>rfl
       | succ q=>simp at hx,fun hno=>hkeep (by
         have:=hno _ (List.mem_singleton.2 rfl) (by simp [TrE.isChg,q1.1])
         have:i<tD ps:=this
         simp only [GP,hm,Bool.true_and];simp [this])⟩,by simp,?_,g2⟩
      ·intro x hx
       rw [List.mem_singleton]at hx
       subst hx
       exact ⟨fun _ h=>(by cases h),fun _=>⟨.inr q1.2,q2,q4,rfl⟩⟩
      ·simp only [gB,Nat.ble_eq];exact q3
      ·intro x hx;simp at hx;subst hx;rfl
      ·simpa using g1
    | _=>exact h3.elim
   have skip:∀ (hw:cD ops o e=some false),tW o.dst e (GP ps i o.op) (nD ps e0.s.n) (xD ps) (cO o.op) i N0 (fun N e=>Wd P O qs ps ops e0 Q rest (i+1) N e) (GQ ops e0 Q i) (.val .undef)->
    ∃ N l f p,zL P (aO P O N) ops (o::rest) i e=some (l,f,p)/\(∀ x∈l,RowI P (aO P O N) qs ps (rD ps x.i e0.s.n) (cA ops) (nsM (cB ps) (N0++jL l)) x)/\gB l f.s.n=true/\(∀ x,l.head?=some x->x.e.s.n=e.s.n)/\(l=[]->f.s.n=e.s.n)/\
      keepT ps (nD ps e0.s.n) l f e/\(match (p:Option (AV × Sto)) with
       | none=>Q .normal f
       | some (v,s)=>0<l.length/\iT (cA ops) (i+l.length-1) ops 0=true/\Q (.panic v) (eW {e0 with s:=s} ops)):=by
    rintro hw ⟨e',hp,hn⟩
    refine row (x:={i,o,e,v:=.undef,run:=false,chg:=false}) rfl rfl rfl (fun n hn=>.inl hn) (fun _ _ _ id _ _=>by
     have:e'.s=e.s:=by
      cases hd:o.dst with
      | none=>rw [hd]at hp;simp [Env.put]at hp;subst hp;rfl
      | some d=>
        rw [hd]at hp
        simp only [Env.put]at hp
        rw [dL]at hp
        split at hp
        ·simp at hp;subst hp;rfl
        ·cases hp
     rw [this]) ⟨0,⟨fun h=>(by cases h),fun h=>(by cases h)⟩,fun M hM z hz=>by simp only [zL,hw,hp,hz]⟩ ?_ hn
    cases hd:o.dst with
    | none=>rw [hd]at hp;simp [Env.put]at hp;subst hp;exact Nat.le_refl _
    | some d=>
      rw [hd]at hp
      simp only [Env.put]at hp
      rw [dL]at hp
      split at hp
      ·simp at hp;subst hp;exact Nat.le_refl _
      ·cases hp
   simp only [Wd]at h
   cases hg:o.guard with
   | none=>
     rw [hg]at h
     exact run (by simp only [cD,hg]) h
   | some jw=>
     obtain ⟨j,want⟩:=jw
     rw [hg]at h
     simp only at h
     rw [HD]at h
     cases hd:ops[j]?.bind (·.dst) with
     | none=>
       rw [hd]at h
       refine skip ?_ h
       simp only [cD,hg]
       cases hj:ops[j]? with
       | none=>rfl
       | some g=>rw [hj]at hd;simp only [Option.bind_some]at hd;simp only [hd]
     | some d=>
       rw [hd]at h
       simp only [VJ]at h
       have haw:cD ops o e=match e.t.get d with | some (.bool b)=>some (b==want) | some (.tuple _)=>some false | _=>none:=by
        simp only [cD,hg]
        cases hj:ops[j]? with
        | none=>rw [hj]at hd;cases hd
        | some g=>rw [hj]at hd;simp only [Option.bind_some]at hd;simp only [hd];cases e.t.get d with | none=>rfl | some v=>cases v<;>rfl
       cases ht:e.t.get d with
       | none=>
         have hv:e.t.val d=.top:=by simp [Tr.val,ht]
         rw [hv]at h
         exact h.elim
       | some v=>
         have hv:e.t.val d=v:=by simp [Tr.val,ht]
         rw [hv]at h
         rw [ht]at haw
         cases v with
         | bool b=>
           simp only at haw
           cases hb:(b==want) with
           | true=>
             rw [hb]at haw
             exact run haw (h.1 (by simpa using hb))
           | false=>
             rw [hb]at haw
             refine skip haw (h.2 ?_)
             have:b≠want:=by simpa using hb
             cases b<;>cases want<;>simp_all
         | tuple l=>exact skip haw h
         | _=>exact h.elim
theorem JV {qs ps:List Nat} {i:Nat} {op:Op} (h:cO op=true):cM qs ps i op=1:=by
 have:eU op=false:=by cases op<;>first | rfl | cases h
 simp [cM,this,h]
theorem BL {qs ps:List Nat} {i:Nat} {op:Op} (h:eU op=false):cM qs ps i op≠0:=by
 simp only [cM,h,cond_false]
 cases cO op with
 | true=>simp
 | false=>
   simp only [cond_false]
   cases ps.elem i with
   | true=>simp
   | false=>
     simp only [cond_false]
     cases qs.elem i with
     | true=>simp
     | false=>
       simp only [cond_false]
       split
       ·simp
       ·simp
       ·simp
       ·split<;>simp
       ·simp
theorem aGj {qs ps:List Nat} {i:Nat} {op:Op} (h:eU op=false) (h':cO op=false):cM qs ps i op=2∨cM qs ps i op=3:=by
 simp only [cM,h,h',cond_false]
 cases ps.elem i with
 | true=>simp
 | false=>
   simp only [cond_false]
   cases qs.elem i with
   | true=>simp
   | false=>
     simp only [cond_false]
     split
     ·simp
     ·simp
     ·simp
     ·split<;>simp
     ·simp
theorem aKb (qs ps:List Nat) {i:Nat} {l:List Oper} {e:Env} {Q:Ex->Env->Prop} (hm:P.follows .mixedOrders=true) (hs:sOk qs ps l=true) (h:Wd P O qs ps l e Q l 0 [] e):W P O (.region i l.toArray true) e Q:=by
 obtain ⟨N,tr,f,p,h1,h2,h3,h4,h5,hkt,h6⟩:=aAx l 0 [] e h
 simp only [sOk,Bool.and_eq_true]at hs
 obtain ⟨hdr,hpr⟩:=hs
 have T:=aCg _ _ _ _ _ _ h1
 have hix:∀ (q:Nat) x,tr[q]?=some x->x.i=q:=fun q x hx=>by simpa using T.i q x hx
 have hop:∀ (q:Nat) x,tr[q]?=some x->l[q]?=some x.o:=fun q x hx=>T.o q x hx
 have hpair:∀ (a b:Nat) x y,a<b->tr[a]?=some x->tr[b]?=some y->DU ps (cA l) a (cM qs ps a x.o.op) b (cM qs ps b y.o.op)=true:=fun a b x y hab hx hy=>by
  have:=JS l 0 hpr a b x.o y.o hab (hop a x hx) (hop b y hy)
  simpa using this
 have hchg3:∀ (q:Nat) x,tr[q]?=some x->x.isChg=true->cM qs ps q x.o.op=3/\cO x.o.op=false:=fun q x hx hc=>by
  simp only [TrE.isChg,Bool.and_eq_true,Bool.not_eq_true']at hc
  have:=(h2 x (List.mem_of_getElem? hx)).chg hc.1
  rw [hix q x hx]at this
  rcases this.1 with g | g
  ·rw [hc.2]at g;cases g
  ·exact ⟨g,hc.2⟩
 have hpairC:∀ (a b:Nat) x y,a<b->tr[a]?=some x->tr[b]?=some y->cM qs ps b y.o.op=3->cM qs ps a x.o.op≠0->(cB ps=false∨cM qs ps a x.o.op≠2∨tD ps<=b∨vB ps a=true)->((cA l).getD b 0).testBit a=true:=fun a b x y hab hx hy hk hk' hmd=>by
  have:=hpair a b x y hab hx hy
  simp only [DU,hk,Nat.beq_refl,cond_true,Bool.or_eq_true,Bool.and_eq_true,decide_eq_true_eq,Bool.not_eq_true']at this
  rcases this with (g | ⟨⟨g1,g3⟩,g2,g4⟩) | g
  ·exact absurd (Nat.eq_of_beq_eq_true g) hk'
  ·rcases hmd with h | h | h | h
   ·rw [h]at g1;cases g1
   ·exact absurd (Nat.eq_of_beq_eq_true g2) h
   ·omega
   ·rw [h]at g4;cases g4
  ·exact g
 have hpairR:∀ (a b:Nat) x y,a<b->tr[a]?=some x->tr[b]?=some y->cM qs ps a x.o.op=3->cM qs ps b y.o.op=2->(cB ps=false∨vB ps b=true)->((cA l).getD b 0).testBit a=true:=fun a b x y hab hx hy hk hk' hmd=>by
  have:=hpair a b x y hab hx hy
  rcases hmd with hmd | hmd<;>simp only [DU,hk,hk',hmd]at this<;>simpa using this
 have hpairT:∀ (a b:Nat) x y,a<b->tr[a]?=some x->tr[b]?=some y->cM qs ps a x.o.op=3->cM qs ps b y.o.op=2->cB ps=true->vB ps b=false->a<tD ps:=fun a b x y hab hx hy hk hk' hmd hor=>by
  have:=hpair a b x y hab hx hy
  simp only [DU,hk,hk',hmd,hor]at this
  simpa using this
 have hchain:eV (cA l) (cY tr)=true:=by
  have key:∀ (m:List TrE) (k:Nat),(∀ q x,m[q]?=some x->tr[k+q]?=some x)->eV (cA l) (cY m)=true/\∀ c,(cY m).head?=some c->∃ q x,m[q]?=some x/\x.isChg=true/\c=k+q:=by
   intro m
   induction m with
   | nil=>intro k _;exact ⟨rfl,by simp [cY]⟩
   | cons x m ih=>
     intro k hm'
     obtain ⟨g1,g2⟩:=ih (k+1) fun q y hy=>by rw [show k+1+q=k+(q+1) by omega];exact hm' (q+1) y (by simpa using hy)
     have hx0:=hm' 0 x rfl
     simp only [Nat.add_zero]at hx0
     cases hc:x.isChg with
     | false=>
       have:cY (x::m)=cY m:=by simp [cY,List.filter_cons,hc]
       rw [this]
       exact ⟨g1,fun c hcc=>by obtain ⟨q,y,k1,k2,k3⟩:=g2 c hcc;exact ⟨q+1,y,by simpa using k1,k2,by omega⟩⟩
     | true=>
       have:cY (x::m)=k::cY m:=by simp [cY,List.filter_cons,hc,hix k x hx0]
       rw [this]
       refine ⟨?_,fun c hcc=>⟨0,x,rfl,hc,by simp at hcc;omega⟩⟩
       cases hcm:cY m with
       | nil=>rfl
       | cons d ds=>
         obtain ⟨q,y,k1,k2,k3⟩:=g2 d (by rw [hcm];rfl)
         have hy:=hm' (q+1) y (by simpa using k1)
         simp only [eV,Bool.and_eq_true]
         rw [<-hcm]
         refine ⟨?_,g1⟩
         subst k3
         rw [show k+1+q=k+(q+1) by omega]
         exact hpairC k (k+(q+1)) x y (by omega) hx0 hy (hchg3 _ y hy k2).1 (by rw [(hchg3 k x hx0 hc).1];simp) (.inr (.inl (by rw [(hchg3 k x hx0 hc).1];simp)))
  exact (key tr 0 fun q x hx=>by simpa using hx).1
 have hchgs:∀ c∈cY tr,∃ x,tr[c]?=some x/\x.isChg=true:=by
  intro c hc
  obtain ⟨x,hx,rfl⟩:=List.mem_map.1 hc
  obtain ⟨q,hq⟩:=List.getElem?_of_mem (List.mem_filter.1 hx).1
  exact ⟨x,by rw [hix q x hq];exact hq,(List.mem_filter.1 hx).2⟩
 have hnews:rS (cA l) (jL tr) (cY tr)=true:=by
  simp only [rS,List.all_eq_true,Bool.or_eq_true,Nat.blt_eq]
  intro c hc n hn
  obtain ⟨x,hx,hxc⟩:=hchgs c hc
  obtain ⟨y,hy,rfl⟩:=List.mem_map.1 hn
  obtain ⟨q,hq⟩:=List.getElem?_of_mem (List.mem_filter.1 hy).1
  have hyn:=(List.mem_filter.1 hy).2
  simp only [TrE.isNew,Bool.and_eq_true]at hyn
  simp only
  rw [hix q y hq]
  rcases Nat.lt_trichotomy c q with g | g | g
  ·exact .inl g
  ·subst g
   rw [hx]at hq;cases hq
   have:=(hchg3 c x hx hxc).2
   rw [hyn.2]at this;cases this
  ·exact .inr (hpairC q c y x g hq hx (hchg3 c x hx hxc).1 (by rw [JV hyn.2];simp) (.inr (.inl (by rw [JV hyn.2];simp))))
 have hunder:iC tr=true:=by
  simp only [iC,List.all_eq_true,Bool.or_eq_true,Bool.not_eq_true']
  intro x hx
  cases hc:x.chg with
  | false=>exact .inl rfl
  | true=>
    right
    intro y hy
    simp only [unb,Bool.or_eq_true,decide_eq_true_eq]
    exact .inr (((h2 x hx).chg hc).2.1 y hy)
 have hreads:eF P (aO P O N) f.s.n e.s.n (cA l) tr f.s=true:=by
  have hkeepTo:∀ (q:Nat) x,tr[q]?=some x->cM qs ps q x.o.op=2->cB ps=true->vB ps q=false->xI (cA l) q (fun id=>id<nD ps e.s.n/\¬ xD ps id) x.e.s (cY tr) (bY tr++[f.s]):=by
   intro q x hq hk hmd hor
   obtain ⟨g1,g2⟩:=hkt hmd aAt
   have htail:∀ (b:Nat) y,tr[b]?=some y->y.isChg=true->b<tD ps∨((cA l).getD b 0).testBit q=true:=fun b y hb hy=>by
    have hk3:=(hchg3 b y hb hy).1
    rcases Nat.lt_or_ge b (tD ps) with h | h
    ·exact .inl h
    rcases Nat.lt_trichotomy b q with w | w | w
    ·exact .inl (hpairT b q y x w hb hq hk3 hk hmd hor)
    ·subst w;rw [hb]at hq;cases hq;rw [hk3]at hk;cases hk
    ·exact .inr (hpairC q b x y w hq hb hk3 (by rw [hk];simp) (.inr (.inr (.inl h))))
   have hbef:∀ (b:Nat) y,b<q->tr[b]?=some y->y.isChg=true->y.i<tD ps:=fun b y hbq hb hy=>by
    rw [hix b y hb]
    rcases htail b y hb hy with h | h
    ·exact h
    ·exact absurd (rI hdr b q _ (hop b y hb) h) (by omega)
   have hx:=g1 q x hq hbef
   have hdrop:∀ (k:Nat) z,tr[k]?=some z->tr.drop k=z::tr.drop (k+1):=fun k z hz=>by
    have hk:=(List.getElem?_eq_some_iff.1 hz).1
    rw [List.drop_eq_getElem_cons hk]
    rw [List.getElem?_eq_getElem hk]at hz
    rw [Option.some.inj hz]
   have key:∀ (d k:Nat),k+d=tr.length->(∀ (b:Nat) y,b<k->tr[b]?=some y->y.isChg=true->y.i<tD ps)->xI (cA l) q (fun id=>id<nD ps e.s.n/\¬ xD ps id) x.e.s (cY (tr.drop k)) (bY (tr.drop k)++[f.s]):=by
    intro d
    induction d with
    | zero=>
      intro k hk hno
      have hk':k=tr.length:=by omega
      rw [hk',List.drop_length]
      intro s hs id hid
      simp only [bY,List.nil_append,List.mem_singleton]at hs
      subst hs
      rw [g2 (fun z hz hc=>by
       obtain ⟨b,hb⟩:=List.getElem?_of_mem hz
       exact hno b z (by have:=(List.getElem?_eq_some_iff.1 hb).1;omega) hb hc) id hid.1 hid.2,hx id hid.1 hid.2]
    | succ d ih=>
      intro k hk hno
      obtain ⟨z,hz⟩:∃ z,tr[k]?=some z:=⟨tr[k]'(by omega),by rw [List.getElem?_eq_getElem]⟩
      rw [hdrop k z hz]
      cases hc:z.isChg with
      | true=>
        simp only [cY,List.filter_cons,hc,if_true,List.map_cons,bY,cond_true,List.cons_append]
        refine ⟨fun id hid=>by rw [g1 k z hz hno id hid.1 hid.2,hx id hid.1 hid.2],?_⟩
        rcases Nat.lt_or_ge z.i (tD ps) with h | h
        ·right
         exact ih (k+1) (by omega) fun b y hb hy hyc=>by
          rcases Nat.lt_succ_iff_lt_or_eq.1 hb with hb | rfl
          ·exact hno b y hb hy hyc
          ·rw [hz]at hy;cases hy;exact h
        ·left
         have hki:=hix k z hz
         intro c' hc'
         have:∃ (b:Nat) (y:TrE),tr[b]?=some y/\y.isChg=true/\c'=b/\k<=b:=by
          rcases List.mem_cons.1 hc' with rfl | hc'
          ·exact ⟨k,z,hz,hc,hki,Nat.le_refl _⟩
          ·obtain ⟨y,hy,rfl⟩:=List.mem_map.1 hc'
           obtain ⟨hy1,hy2⟩:=List.mem_filter.1 hy
           obtain ⟨b,hb⟩:=List.getElem?_of_mem hy1
           rw [List.getElem?_drop]at hb
           exact ⟨k+1+b,y,hb,hy2,hix _ y hb,by omega⟩
         obtain ⟨b,y,hb,hyc,rfl,hkb⟩:=this
         rcases htail c' y hb hyc with g | g
         ·omega
         ·exact g
      | false=>
        simp only [cY,List.filter_cons,hc,bY,cond_false]
        exact ih (k+1) (by omega) fun b y hb hy hyc=>by
         rcases Nat.lt_succ_iff_lt_or_eq.1 hb with hb | rfl
         ·exact hno b y hb hy hyc
         ·rw [hz]at hy;cases hy;rw [hc]at hyc;cases hyc
   have:=key tr.length 0 (by omega) (fun b y hb=>by omega)
   rwa [List.drop_zero]at this
  have key:∀ (m:List TrE),(∀ x∈m,x∈tr)->jR P (aO P O N) f.s.n e.s.n (cA l) (jL tr) (cY tr) (bY tr++[f.s]) m=true:=by
   intro m
   induction m with
   | nil=>intro _;rfl
   | cons x m ih=>
     intro hm'
     simp only [jR,Bool.and_eq_true,Bool.or_eq_true]
     refine ⟨?_,ih (fun y hy=>hm' y (List.mem_cons_of_mem _ hy))⟩
     have hxt:=hm' x (List.mem_cons_self ..)
     cases hc:x.chg with
     | true=>simp
     | false=>
       cases hr:x.run with
       | false=>simp
       | true=>
         rcases (h2 x hxt).keep hr hc with g | ⟨g,g'⟩
         ·simp [g]
         ·cases hpp:eU x.o.op with
          | true=>simp
          | false=>
            obtain ⟨q,hq⟩:=List.getElem?_of_mem hxt
            have hqi:=hix q x hq
            have hmore:∀ id,exY (xD ps) (keptY (rD ps x.i e.s.n) (cA l) (nsM (cB ps) (jL tr)) x.i) id->keptY e.s.n (cA l) (jL tr) x.i id:=fun id hid=>by
             rcases hid.1 with h | ⟨k,h,h'⟩
             ·exact .inl (Nat.lt_of_lt_of_le h aNk)
             ·refine .inr ⟨k,?_,h'⟩
              cases hmd:cB ps with
              | true=>rw [hmd]at h;simp [nsM]at h
              | false=>rw [hmd]at h;exact h
            have hB:(∀ c∈cY tr,((cA l).getD q 0).testBit c=true∨((cA l).getD c 0).testBit q=true)->mW P (aO P O N) (cA l) e.s.n (jL tr) (cY tr) x=true:=fun h=>by
             simp only [mW,Bool.and_eq_true,List.all_eq_true,Bool.or_eq_true,decide_eq_true_eq]
             refine ⟨fun c hcc=>by rw [hqi];exact h c hcc,fun s' hs=>g' s' fun id hid=>hs id (hmore id hid)⟩
            have hne:∀ c y,tr[c]?=some y->y.isChg=true->c≠q:=fun c y hy hyc hcq=>by
             subst hcq
             rw [hy]at hq;cases hq
             simp only [TrE.isChg,hc,Bool.false_and]at hyc
             cases hyc
            rcases aGj (qs:=qs) (ps:=ps) (i:=q) hpp g with k | k
            ·cases hmd:cB ps with
             | true=>
               cases hor:vB ps q with
               | false=>
                 right
                 simp only [pW,decide_eq_true_eq]
                 refine ⟨fun id=>id<nD ps e.s.n/\¬ xD ps id,fun id hid=>Nat.lt_of_lt_of_le hid.1 aAt,by rw [hqi];exact hkeepTo q x hq k hmd hor,fun s' hs=>g' s' fun id hid=>hs id ⟨?_,hid.2⟩⟩
                 rw [hmd]at hid
                 rcases hid.1 with h | ⟨k,h,_⟩
                 ·rw [hqi,rD,hor]at h;exact h
                 ·simp [nsM]at h
               | true=>
                 left;right
                 refine hB fun c hcc=>?_
                 obtain ⟨y,hy,hyc⟩:=hchgs c hcc
                 have hk3:=(hchg3 c y hy hyc).1
                 rcases Nat.lt_trichotomy c q with w | w | w
                 ·exact .inl (hpairR c q y x w hy hq hk3 k (.inr hor))
                 ·exact absurd w (hne c y hy hyc)
                 ·exact .inr (hpairC q c x y w hq hy hk3 (BL hpp) (.inr (.inr (.inr hor))))
             | false=>
               left;right
               refine hB fun c hcc=>?_
               obtain ⟨y,hy,hyc⟩:=hchgs c hcc
               have hk3:=(hchg3 c y hy hyc).1
               rcases Nat.lt_trichotomy c q with w | w | w
               ·exact .inl (hpairR c q y x w hy hq hk3 k (.inl hmd))
               ·exact absurd w (hne c y hy hyc)
               ·exact .inr (hpairC q c x y w hq hy hk3 (BL hpp) (.inl hmd))
            ·left;right
             refine hB fun c hcc=>?_
             obtain ⟨y,hy,hyc⟩:=hchgs c hcc
             have hk3:=(hchg3 c y hy hyc).1
             rcases Nat.lt_trichotomy c q with w | w | w
             ·exact .inl (hpairC c q y x w hy hq k (by rw [hk3];simp) (.inr (.inl (by rw [hk3];simp))))
             ·exact absurd w (hne c y hy hyc)
             ·exact .inr (hpairC q c x y w hq hy hk3 (BL hpp) (.inr (.inl (by rw [k];simp))))
  unfold eF
  split
  ·rfl
  ·exact key tr (fun x hx=>hx)
 have hall:(P.follows .mixedOrders&&mC l&&eV (cA l) (cY tr)&&rS (cA l) (jL tr) (cY tr)&&gB tr f.s.n&&iC tr&&eF P (aO P O N) f.s.n e.s.n (cA l) tr f.s)=true:=by
  simp only [hm,hdr,hchain,hnews,h3,hunder,hreads,Bool.and_self]
 cases p with
 | none=>
   refine ⟨N,.normal,f,?_,h6⟩
   simp only [bA,mX,cond_true,vX,h1,hall]
 | some q=>
   obtain ⟨v,s⟩:=q
   obtain ⟨g1,g2,g3⟩:=h6
   refine ⟨N,.panic v,eW {e with s:=s} l,?_,g3⟩
   simp only [Nat.zero_add]at g2
   simp only [bA,mX,cond_true,vX,h1,hall,g2]
end
end
end Go.Abs
