/-
  The abstract machine: calls that turn objects of their caller, and return what is frozen.
-/
import Derived.Test.YtdipddlhenoglaaGreatEp
set_option linter.unusedVariables false
set_option linter.unusedSimpArgs false
namespace Go.Abs
noncomputable section
variable {P:Program} {O:bP} {H:cQ}
def dC (f:FuncId) (R:List AV->Sto->CRes->Prop):mE:=⟨f,fun args s=>@dite _ (∃ res,R args s res) (Classical.propDecidable _) (fun h=>some h.choose) fun _=>none⟩
theorem mB {f:FuncId} {R:List AV->Sto->CRes->Prop} (h:∀ args s res,R args s res->bT P f args s res):bY P (dC f R):=by
 intro args s res a;simp only [dC]at a;split at a
 ·rename_i b
  cases a;exact h _ _ _ b.choose_spec
 ·cases a
theorem uT {g b:Nat} {cs a:List AV} (h:aR g cs=aR b a):g=b/\cs=a:=by
 simp only [aR,AObj.cells.injEq]at h;obtain ⟨c,e,d⟩:=h;refine ⟨c,List.ext_getElem? fun i=>?_⟩;rw [<-Tr.get_row cs i,<-Tr.get_row a i,d]
end
end Go.Abs
/-
 The abstract machine: calls that are run in place,and leave what was there as it was.
-/
namespace Go.Abs
noncomputable section
variable {P:Program} {O:bP} {H:cQ}
def RetS (P:Program) (O:bP) (b:AV) (args:List AV) (s:Sto) (v:AV):Prop:=∃ a,Sim s (a.getD s)/\∃ n rr,aO P O n b args s .no=some (.ret v a,rr)
theorem RetS.of {b:AV} {args:List AV} {s:Sto} {v:AV} (h:Wcall P O b args s fun res=>∃ a,res=.ret v a/\Sim s (a.getD s)):RetS P O b args s v:=by
 obtain ⟨n,res,e,c,a,rfl,d⟩:=h;exact ⟨a,d,n,e,c⟩
def aWj (P:Program) (a:List ResultVar) (v:AV) (s:Sto):Ex->Env->Prop
 | .normal,e=>e.ds=[]/\e.r=.no/\vX (aU P e a) (fun S r=>r=v/\Sim s S) e.s
 | .ret,e=>e.ds=[]/\e.r=.no/\vX (aU P e a) (fun S r=>r=v/\Sim s S) e.s
 | _,_=>False
theorem RetS.run {g:FuncId} {first cap args:List AV} {s:Sto} {v:AV} {fn:Func} {c:Code} {N:Nat} {l:List ResultVar} (H:cQ) (D:O g (first++args++cap) s=none) (f:okFn P g=true) (B:P.funcs[g]?=some fn) (C:fn.ntmps=N) (E:fn.results=l.toArray) (y:fn.body=some c)
 (w:Nat.ble (first++args++cap).length N=true) (h:Wk P O H c ⟨N,none,g,Tr.leaf.lay 0 (first++args++cap),[],⟨s.n,s.n,s.o⟩,.no⟩ (aWj P l v s)):RetS P O (.func (.func g) first cap) args s v:=by
 refine .of (uU D f B y ?_);have A:EY fn g (first++args++cap) s .no=⟨N,none,g,Tr.leaf.lay 0 (first++args++cap),[],⟨s.n,s.n,s.o⟩,.no⟩:=iA C w;rw [A]
 refine h.sound.mono fun ex e k=>?_
 have d:e.ds=[]/\e.r=.no/\vX (aU P e l) (fun S r=>r=v/\Sim s S) e.s->Lv P O fn none e (clR s fun res _=>∃ m,res=.ret v m/\Sim s (m.getD s)):=by
  rintro ⟨p,F,vs,q,rfl,u⟩;refine qR p (by rw [E];exact q) ⟨_,rfl,?_⟩;exact mY s _ e (fun S=>Sim s S) (fun _ _ a b=>b.trans a) u (.inr (Sim.refl s))
 cases ex with
 | normal=>exact d k
 | ret=>exact d k
 | _=>exact k.elim
end
end Go.Abs
/-
 The abstract machine: panics,interfaces,what is deferred and recovered.
-/
namespace Go.Abs
noncomputable section
variable {P:Program} {O:bP} {H:cQ}
theorem XP {op:Op} {e:Env} {K:ORes->Prop} {r:Option ORes} (h:∀ n,eL P (aO P O n) op e=r):dS P O op e K↔∃ x,r=some x/\K x:=by
 constructor
 ·rintro ⟨n,x,a,b⟩
  rw [h]at a;exact ⟨x,a,b⟩
 ·rintro ⟨x,a,b⟩
  exact ⟨0,x,by rw [h];exact a,b⟩
def ifK (P:Program) (t:TypeId):Bool:=match P.underlying t with
 | some (.interface _)=>false
 | some _=>true
 | none=>false
def aMj (P:Program) (t:TypeId) (v:AV):Option AV:=bif ifK P t then some (.iface t v) else none
theorem aHe {t:TypeId} {x:Operand} {e:Env} {K:ORes->Prop}:dS P O (.makeInterface t x) e K↔nE (aMj P t (e.eval x)) K:=by
 rw [XP (r:=match P.underlying t with | some (.interface _)=>none | some _=>some (.val (.iface t (e.eval x))) | none=>none) fun _=>rfl];unfold aMj ifK nE
 cases h:P.underlying t with
 | none=>simp
 | some d=>cases d<;>simp
theorem LL {t:TypeId} {v:AV} (h:ifK P t=true):aMj P t v=some (.iface t v):=by simp [aMj,h]
def taV (P:Program) (v:AV) (t:TypeId) (z:Option AV):Option AV:=match v with
 | .iface d v=>bif Nat.beq d t then some (.tuple [v,.bool true]) else z.map fun z=>.tuple [z,.bool false]
 | _=>none
theorem aQr {x:Operand} {u t:TypeId} {e:Env} {K:ORes->Prop} (a:ifK P t=true) {d:TypeId} {v:AV} (h:e.eval x=.iface d v):dS P O (.typeAssert x u t true) e K↔nE (taV P (.iface d v) t (bF P t)) K:=by
 unfold ifK at a
 have f:∀ n,eL P (aO P O n) (.typeAssert x u t true) e=(taV P (.iface d v) t (bF P t)).map .val:=by
  intro n
  show (match P.underlying t,e.eval x with
   | some (.interface _),.nili=>bif true then (match bF P t with | some z=>some (ORes.val (.tuple [z,.bool false])) | none=>none) else none
   | some (.interface b),.iface d v=>match P.info? d with
     | some i=>bif qA b i.methods then (bif true then (match bF P t with | some z=>some (ORes.val (.tuple [z,.bool false])) | none=>none) else none)
      else some (.val (bif true then .tuple [.iface d v,.bool true] else .iface d v))
     | none=>none
   | some _,.nili=>bif true then (match bF P t with | some z=>some (ORes.val (.tuple [z,.bool false])) | none=>none) else none
   | some _,.iface d v=>bif Nat.beq d t then some (.val (bif true then .tuple [v,.bool true] else v))
    else bif true then (match bF P t with | some z=>some (ORes.val (.tuple [z,.bool false])) | none=>none) else none
   | _,_=>none)=_
  rw [h];unfold taV
  cases c:P.underlying t with
  | none=>rw [c]at a;cases a
  | some k=>
    rw [c]at a
    cases k<;>first | (cases a;done) | (simp only [cond_true];cases Nat.beq d t<;>simp;cases bF P t<;>rfl)
 rw [XP f];unfold nE;cases taV P (.iface d v) t (bF P t)<;>simp
end
end Go.Abs
/-
 The abstract machine: appends to a row that is full;parts of slices with room.
-/
namespace Go.Abs
noncomputable section
def apG (s:Sto) (o:Option AObj) (g len k by_ n:Nat) (new:List AV):Option ORes:=match o with
 | some (.cells a m cs)=>bif Nat.beq g a&&Nat.ble (len*k) m then (match cs.row 0 (len*k) with
   | some old=>fM s k by_ old new (len+n)
   | none=>none) else none
 | _=>none
theorem TV {s:Sto} {k by_ id g len c n:Nat} {new:List AV} (h:c<len+n):apF s k by_ (.sl id g 0 len (.is c)) (some (n,new))=apG s (s.get id) g len k by_ n new:=by
 have b:Nat.ble (len+n) c=false:=by
  cases e:Nat.ble (len+n) c with
  | false=>rfl
  | true=>have:=Nat.le_of_ble_eq_true e;omega
 have d:Nat.ble len len=true:=by simp
 simp only [apF,b,cond_false,dT,d,cond_true,apG,Nat.zero_add]
 cases s.get id with
 | none=>rfl
 | some o=>cases o with
   | cells a m cs=>
     simp only;cases Nat.beq g a&&Nat.ble (len*k) m<;>rfl
   | _=>rfl
theorem LM {s:Sto} {g len k by_ n:Nat} {cs new:List AV} (f:cs.length=len*k) (h:(2*(len+n)+1024)*by_<=281474976710656/\len+n<4611686018427387904) (d:cs.all AV.isCell=true) (e:new.all AV.isCell=true):
 apG s (some (aR g cs)) g len k by_ n new=some (.val' (.sl s.n 0 0 (len+n) (.room k)) (s.push (ob (cs++new)))):=by
 have a:Nat.ble (len*k) cs.length=true:=by simp [f]
 have b:(Tr.leaf.lay 0 cs).row 0 (len*k)=some cs:=by rw [Tr.row_lay _ _ _ (by omega),FD (by omega)]
 have c:(cs++new).all AV.isCell=true:=by rw [List.all_append,d,e];rfl
 simp only [apG,aR,Nat.beq_refl,a,Bool.and_self,cond_true,b,fM,uW h,nY,c,if_true]
theorem BJ {k n:Nat}:fJ k n n=.room k:=by simp [fJ]
theorem aQs {k id g off len:Nat} {j:IntKind} {b:Int} {d:Option AV} (a:0<=b) (c:b<=len) (f:0<len):UF (some k) (.sl id g off len (.room k)) none (some (.int j b)) none d=some (.sl id g off b.toNat (fJ k b.toNat len)):=by
 have e:Nat.blt 0 len=true:=by simp;omega
 simp only [UF,rL,nA,mC a c,Nat.beq_refl,e,cond_true,Nat.zero_mul,Nat.add_zero,Nat.sub_zero]
theorem TW {P:Program} {s:Sto} {ts:Array TypeId} {k:IntKind} {a b:Int}:aX P s .min ts [.int k a,.int k b]=some (.val (.int k (if b<a then b else a))):=by
 have:aX P s .min ts [.int k a,.int k b]=valO (lH false [.int k a,.int k b]):=by
  unfold aX;cases h:ts[0]?<;>rfl
 rw [this];simp only [lH,rN,decide_true,cond_true,cond_false,vH,valO]
theorem aHf {P:Program} {s:Sto} {ts:Array TypeId} {k:IntKind} {a b:Int}:aX P s .max ts [.int k a,.int k b]=some (.val (.int k (if b > a then b else a))):=by
 have:aX P s .max ts [.int k a,.int k b]=valO (lH true [.int k a,.int k b]):=by
  unfold aX;cases h:ts[0]?<;>rfl
 rw [this];simp only [lH,rN,decide_true,cond_true,vH,valO]
section
variable {P:Program} {O:bP} {H:cQ}
theorem OY {o:Option AV} {K a:ORes->Prop} (h:∀ r,K r->a r) (d:nE o K):nE o a:=by obtain ⟨v,b,c⟩:=d;exact ⟨v,b,h _ c⟩
theorem OZ {o:Option Sto} {K a:ORes->Prop} (h:∀ r,K r->a r) (d:QA o K):QA o a:=by obtain ⟨v,b,c⟩:=d;exact ⟨v,b,h _ c⟩
theorem yD {o:Option ORes} {K a:ORes->Prop} (h:∀ r,K r->a r) (d:sG o K):sG o a:=by obtain ⟨v,b,c⟩:=d;exact ⟨v,b,h _ c⟩
theorem LN {K a:ORes->Prop} (h:∀ r,K r->a r):∀ r,vK K r->vK a r:=fun r b=>by cases r<;>first | exact h _ b | exact b.elim
theorem XQ {n:Nat} {K b:ORes->Prop} (h:∀ r,K r->b r):∀ r,cK n K r->cK n b r:=fun r a=>by cases r<;>first | exact ⟨a.1,h _ a.2⟩ | exact a.elim
theorem aMk {F:Sto->Option ORes} {Y:Nat->Prop} {s:Sto} {K b:ORes->Prop} (h:∀ r,K r->b r):∀ r,cF F Y s K r->cF F Y s b r:=fun r a=>by cases r<;>first | exact ⟨a.1,h _ a.2⟩ | exact a.elim
theorem XR {kd:Nat} {Y:Nat->Prop} {op:Op} {e:Env} {K y:ORes->Prop} (h:∀ r,K r->y r) (d:sD P O kd Y op e K):sD P O kd Y op e y:=by
 have A:∀ {op:Op},dS P O op e K->dS P O op e y:=fun A=>by obtain ⟨n,r,q,u⟩:=A;exact ⟨n,r,q,h _ u⟩
 have J:∀ {F:Sto->Option CRes} {r:Option CRes} {t:Prop} {s:Sto},GU F r t s K->GU F r t s y:=by
  intro F r t s o
  match r,o with
  | some (.ret v none),o=>exact ⟨o.1,h _ o.2⟩
  | some (.ret v (some G)),o=>exact ⟨o.1,o.2.1,h _ o.2.2⟩
  | some (.pan v none),o=>exact ⟨o.1,h _ o.2⟩
  | some (.pan v (some G)),o=>exact ⟨o.1,o.2.1,h _ o.2.2⟩
  | none,o=>exact o.elim
 have D:∀ {B:AV} {args:List AV} {s:Sto},vW P O kd B args s K->vW P O kd B args s y:=by
  intro B args s o;unfold vW at o ⊢;split
  ·exact J o
  ·refine ⟨o.1,o.2.mono fun res w=>?_⟩
   match res,w with
   | .ret v (some G),w=>exact ⟨w.1,h _ w.2⟩
   | .pan v (some G),w=>exact ⟨w.1,h _ w.2⟩
   | .ret v none,_=>trivial
   | .pan v none,_=>trivial
  ·rename_i q u
   split at o
   ·rename_i g a b;exact absurd rfl (q g a b)
   ·rename_i g a b;exact absurd rfl (u g a b)
   ·exact o.elim
 cases op with
 | load ty a=>exact ⟨d.1,OY h d.2⟩
 | lookup ty m k M=>exact ⟨d.1,OY h d.2⟩
 | convert L dst x=>exact ⟨d.1,yD (LN h) d.2⟩
 | store ty a x=>exact ⟨d.1,OZ (XQ h) d.2⟩
 | mapUpdate ty m k x=>exact ⟨d.1,OZ (XQ h) d.2⟩
 | alloc ty=>obtain ⟨v,q,u,C⟩:=d;exact ⟨v,q,u,h _ C⟩
 | box ty x=>obtain ⟨I,q,u,C⟩:=d;exact ⟨I,q,u,h _ C⟩
 | buildSlice ty len E=>exact ⟨d.1,A d.2⟩
 | makeSlice ty l c=>exact ⟨d.1,A d.2⟩
 | call c=>
   obtain ⟨p,args,ts⟩:=c
   cases p with
   | builtin b=>cases b<;>first | exact ⟨d.1,yD (LN h) d.2⟩ | exact yD (LN h) d | exact ⟨d.1,yD (aMk h) d.2⟩
   | value f=>exact D d
   | invoke _ _=>exact d.elim
 | _=>exact ⟨d.1,A d.2⟩
theorem aAv {dst:Option Tmp} {e:Env} {md:Bool} {n0:Nat} {X:Nat->Prop} {nw:Bool} {i:Nat} {N:List (Nat × Nat)} {next next':List (Nat × Nat)->Env->Prop} {f b:AV->Sto->Prop} (h:∀ N e,next N e->next' N e) (k:∀ v s,f v s->b v s):∀ r,wZ dst e md n0 X nw i N next f r->wZ dst e md n0 X nw i N next' b r:=fun r a=>by
 cases r with
 | val v=>obtain ⟨e',c,d⟩:=a;exact ⟨e',c,h _ _ d⟩
 | val' v s=>obtain ⟨l,e',c,d⟩:=a;exact ⟨l,e',c,h _ _ d⟩
 | pan v s=>exact ⟨a.1,k _ _ a.2⟩
 | _=>exact a.elim
theorem XS {qs ps:List Nat} {ops:List Oper} {c:Env} {Q f:Ex->Env->Prop} (m:∀ ex e,Q ex e->f ex e):∀ (rest:List Oper) (i:Nat) (N:List (Nat × Nat)) (e:Env),Wd P O qs ps ops c Q rest i N e->Wd P O qs ps ops c f rest i N e
 | [],i,N,e,h=>m _ _ h
 | o::rest,i,N,e,h=>by
   have w:∀ v s,LY ops c Q i v s->LY ops c f i v s:=fun v s a=>⟨a.1,m _ _ a.2⟩
   have k:=aAv (dst:=o.dst) (e:=e) (md:=LX ps i o.op) (n0:=nD ps c.s.n) (X:=xD ps) (nw:=cY o.op) (i:=i) (N:=N) (next:=Wd P O qs ps ops c Q rest (i+1)) (next':=Wd P O qs ps ops c f rest (i+1)) (fun N e a=>XS m rest (i+1) N e a) w;unfold Wd at h ⊢
   cases p:o.guard with
   | none=>rw [p]at h;exact XR k h
   | some g=>
     obtain ⟨j,q⟩:=g;rw [p]at h;simp only at h ⊢;unfold gF at h ⊢;split
     ·rename_i b d
      rw [d]at h;exact ⟨fun a=>XR k (h.1 a),fun a=>k _ (h.2 a)⟩
     ·rename_i l d
      rw [d]at h;exact k _ h
     ·rename_i r u
      split at h
      ·rename_i b d;exact absurd d (r b)
      ·rename_i l d;exact absurd d (u l)
      ·exact h.elim
theorem Wk.mono:∀ {c:Code} {H:cQ} {e:Env} {Q k:Ex->Env->Prop},(∀ ex e,Q ex e->k ex e)->Wk P O H c e Q->Wk P O H c e k:=by
 intro c
 induction c with
 | skip=>intro H e Q k d h;exact d _ _ h
 | label l=>intro H e Q k d h;exact d _ _ h
 | region i ops u=>
   intro H e Q k d h
   cases u with
   | false=>obtain ⟨n,ex,e',v,w⟩:=h;exact ⟨n,ex,e',v,d _ _ w⟩
   | true=>exact ⟨h.1,h.2.1,XS d _ _ _ _ h.2.2⟩
 | seq a b o A=>
   intro H e Q k d h;refine o (fun ex e' r=>?_) h
   cases ex with
   | normal=>exact A d r
   | _=>exact d _ _ r
 | cond q x y B C=>
   intro H e Q k d h
   rcases h with ⟨v,w⟩ | ⟨v,w⟩
   ·exact .inl ⟨v,B d w⟩
   ·exact .inr ⟨v,C d w⟩
 | block id a o=>
   intro H e Q k d h;refine o (fun ex e' r=>?_) h
   cases ex with
   | exit j=>
     have p:(bif Nat.beq j id then Q .normal e' else Q (.exit j) e'):=r;show (bif Nat.beq j id then k .normal e' else k (.exit j) e')
     cases D:Nat.beq j id with
     | true=>rw [D]at p;exact d _ _ p
     | false=>rw [D]at p;exact d _ _ p
   | _=>exact d _ _ r
 | loop a o=>
   intro H e Q k d h;obtain ⟨α,I,m,x,F,J⟩:=h;refine ⟨α,I,m,x,F,fun a e G=>(J a e G).imp fun L E=>o (fun ex e' r=>?_) E⟩
   cases ex with
   | normal=>exact r
   | _=>exact d _ _ r
 | scope a o=>intro H e Q k d h;exact o d h
 | exit id=>intro H e Q k d h;exact d _ _ h
 | ret=>intro H e Q k d h;exact d _ _ h
 | rangeFunc f ps a b=>intro H e Q k d h;exact W.mono h d
 | _=>intro H e Q k d h;exact h.elim
def aOo (id:Nat) (M:Env->Prop) (Q:Ex->Env->Prop):Ex->Env->Prop:=fun ex e=>match ex with
 | .exit j=>if j=id then M e else Q (.exit j) e
 | ex=>Q ex e
@[congr] theorem aOp {id:Nat} {M:Env->Prop} {Q:Ex->Env->Prop} {x x':Ex} {e e':Env} (h:x=x') (h':e=e'):aOo id M Q x e=aOo id M Q x' e':=by rw [h,h']
end
end
end Go.Abs
