/-

-/
import Derived.Test.YtpmccfnfikkkbaaGreatEp
set_option linter.unusedVariables false
set_option linter.unusedSimpArgs false
namespace Go.Abs
noncomputable section
variable {P:Program} {O:Orc} {H:dT}
end
end Go.Abs
/-

-/
namespace Go.Abs
noncomputable section
variable {P:Program} {O:Orc} {H:dT}
def RetS (P:Program) (O:Orc) (b:AV) (args:List AV) (s:Sto) (v:AV):Prop:=∃ a,Sim s (a.getD s)/\∃ n rr,aP P O n b args s .no=some (.ret v a,rr)
theorem RetS.wcall {b:AV} {args:List AV} {s:Sto} {v:AV} {K:CRes->Prop} (h:RetS P O b args s v) (e:∀ a,Sim s (a.getD s)->K (.ret v a)):Wcall P O b args s K:=by
 obtain ⟨a,c,n,f,d⟩:=h;exact ⟨n,_,_,d,e a c⟩
theorem RetS.of {b:AV} {args:List AV} {s:Sto} {v:AV} (h:Wcall P O b args s fun res=>∃ a,res=.ret v a/\Sim s (a.getD s)):RetS P O b args s v:=by
 obtain ⟨n,res,e,c,a,rfl,d⟩:=h;exact ⟨a,d,n,e,c⟩
theorem RetS.orc {g:FuncId} {first cap args:List AV} {s:Sto} {v:AV} (h:O g (first++args++cap) s=some (.ret v none)):RetS P O (.func (.func g) first cap) args s v:=by
 refine ⟨none,Sim.refl s,1,.no,?_⟩;simp only [aP,BP,h]
def aGi (P:Program) (a:List ResultVar) (v:AV) (s:Sto):Ex->Env->Prop
 | .normal,e=>e.ds=[]/\e.r=.no/\wJ (aS P e a) (fun S r=>r=v/\Sim s S) e.s
 | .ret,e=>e.ds=[]/\e.r=.no/\wJ (aS P e a) (fun S r=>r=v/\Sim s S) e.s
 | _,_=>False
theorem aT {a:List ResultVar} {v:AV} {s S:Sto} {nt:Nat} {ro:Option Nat} {fn:FuncId} {t:Tr AV}:aGi P a v s .ret ⟨nt,ro,fn,t,[],S,.no⟩↔wJ (aS P ⟨nt,ro,fn,t,[],S,.no⟩ a) (fun S r=>r=v/\Sim s S) S:=by simp [aGi]
theorem aNp {a:List ResultVar} {v:AV} {s S:Sto} {nt:Nat} {ro:Option Nat} {fn:FuncId} {t:Tr AV}:aGi P a v s .normal ⟨nt,ro,fn,t,[],S,.no⟩↔wJ (aS P ⟨nt,ro,fn,t,[],S,.no⟩ a) (fun S r=>r=v/\Sim s S) S:=by simp [aGi]
theorem RetS.run {g:FuncId} {first cap args:List AV} {s:Sto} {v:AV} {fn:Func} {c:Code} {N:Nat} {l:List ResultVar} (H:dT) (E:O g (first++args++cap) s=none) (f:okFn P g=true) (C:P.funcs[g]?=some fn) (D:fn.ntmps=N) (F:fn.results=l.toArray) (A:fn.body=some c)
 (y:Nat.ble (first++args++cap).length N=true) (h:Wk P O H c ⟨N,none,g,Tr.leaf.lay 0 (first++args++cap),[],⟨s.n,s.n,s.o⟩,.no⟩ (aGi P l v s)):RetS P O (.func (.func g) first cap) args s v:=by
 refine .of (pT E f C A ?_);have B:DR fn g (first++args++cap) s .no=⟨N,none,g,Tr.leaf.lay 0 (first++args++cap),[],⟨s.n,s.n,s.o⟩,.no⟩:=lP D y;rw [B]
 refine h.sound.mono fun p e k=>?_
 have d:e.ds=[]/\e.r=.no/\wJ (aS P e l) (fun S r=>r=v/\Sim s S) e.s->Lv P O fn none e (clR s fun res _=>∃ m,res=.ret v m/\Sim s (m.getD s)):=by
  rintro ⟨q,G,vs,u,rfl,w⟩;refine pF q (by rw [F];exact u) ⟨_,rfl,?_⟩;exact nL s _ e (fun S=>Sim s S) (fun _ _ a b=>b.trans a) w (.inr (Sim.refl s))
 cases p with
 | normal=>exact d k
 | ret=>exact d k
 | _=>exact k.elim
theorem bL {g:FuncId} {first cap args:List AV} {s:Sto} {K:CRes->Prop} (b:O g (first++args++cap) s=none) (h:Wcall P O (.func (.func g) first cap) args s K):aFp P O (.func (.func g) first cap) args s K:=by
 have a:=cR.1 h;rw [b,aQ]at a;exact a
end
end Go.Abs
/-

-/
namespace Go.Abs
noncomputable section
variable {P:Program} {O:Orc} {H:dT}
theorem XG {op:Op} {e:Env} {K:ORes->Prop} {r:Option ORes} (h:∀ n,eX P (aP P O n) op e=r):eI P O op e K↔∃ x,r=some x/\K x:=by
 constructor
 ·rintro ⟨n,x,a,b⟩
  rw [h]at a;exact ⟨x,a,b⟩
 ·rintro ⟨x,a,b⟩
  exact ⟨0,x,by rw [h];exact a,b⟩
def ifK (P:Program) (t:TypeId):Bool:=match P.underlying t with
 | some (.interface _)=>false
 | some _=>true
 | none=>false
def aLe (P:Program) (t:TypeId) (v:AV):Option AV:=bif ifK P t then some (.iface t v) else none
theorem aGj {t:TypeId} {x:Operand} {e:Env} {K:ORes->Prop}:eI P O (.makeInterface t x) e K↔nR (aLe P t (e.eval x)) K:=by
 rw [XG (r:=match P.underlying t with | some (.interface _)=>none | some _=>some (.val (.iface t (e.eval x))) | none=>none) fun _=>rfl];unfold aLe ifK nR
 cases h:P.underlying t with
 | none=>simp
 | some d=>cases d<;>simp
theorem KY {t:TypeId} {v:AV} (h:ifK P t=true):aLe P t v=some (.iface t v):=by simp [aLe,h]
def taV (P:Program) (v:AV) (t:TypeId) (z:Option AV):Option AV:=match v with
 | .iface d v=>bif Nat.beq d t then some (.tuple [v,.bool true]) else z.map fun z=>.tuple [z,.bool false]
 | _=>none
theorem aPx {x:Operand} {u t:TypeId} {e:Env} {K:ORes->Prop} (a:ifK P t=true) {d:TypeId} {v:AV} (h:e.eval x=.iface d v):eI P O (.typeAssert x u t true) e K↔nR (taV P (.iface d v) t (bB P t)) K:=by
 unfold ifK at a
 have f:∀ n,eX P (aP P O n) (.typeAssert x u t true) e=(taV P (.iface d v) t (bB P t)).map .val:=by
  intro n
  show (match P.underlying t,e.eval x with
   | some (.interface _),.nili=>bif true then (match bB P t with | some z=>some (ORes.val (.tuple [z,.bool false])) | none=>none) else none
   | some (.interface b),.iface d v=>match P.info? d with
     | some i=>bif qC b i.methods then (bif true then (match bB P t with | some z=>some (ORes.val (.tuple [z,.bool false])) | none=>none) else none)
      else some (.val (bif true then .tuple [.iface d v,.bool true] else .iface d v))
     | none=>none
   | some _,.nili=>bif true then (match bB P t with | some z=>some (ORes.val (.tuple [z,.bool false])) | none=>none) else none
   | some _,.iface d v=>bif Nat.beq d t then some (.val (bif true then .tuple [v,.bool true] else v))
    else bif true then (match bB P t with | some z=>some (ORes.val (.tuple [z,.bool false])) | none=>none) else none
   | _,_=>none)=_
  rw [h];unfold taV
  cases c:P.underlying t with
  | none=>rw [c]at a;cases a
  | some k=>
    rw [c]at a
    cases k<;>first | (cases a;done) | (simp only [cond_true];cases Nat.beq d t<;>simp;cases bB P t<;>rfl)
 rw [XG f];unfold nR;cases taV P (.iface d v) t (bB P t)<;>simp
end
end Go.Abs
/-

-/
namespace Go.Abs
noncomputable section
def apG (s:Sto) (o:Option AObj) (g len k by_ n:Nat) (new:List AV):Option ORes:=match o with
 | some (.cells g' m cs)=>bif Nat.beq g g'&&Nat.ble (len*k) m then (match cs.row 0 (len*k) with
   | some old=>gX s k by_ old new (len+n)
   | none=>none) else none
 | _=>none
theorem KZ {s:Sto} {k by_ id g len c n:Nat} {new:List AV} (h:c<len+n):apF s k by_ (.sl id g 0 len (.is c)) (some (n,new))=apG s (s.get id) g len k by_ n new:=by
 have a:Nat.ble (len+n) c=false:=by
  cases d:Nat.ble (len+n) c with
  | false=>rfl
  | true=>have:=Nat.le_of_ble_eq_true d;omega
 have b:Nat.ble len len=true:=by simp
 simp only [apF,a,cond_false,dV,b,cond_true,apG,Nat.zero_add]
 cases s.get id with
 | none=>rfl
 | some o=>cases o with
   | cells g' m cs=>
     simp only;cases Nat.beq g g'&&Nat.ble (len*k) m<;>rfl
   | _=>rfl
theorem CG {s:Sto} {g len k by_ n:Nat} {cs new:List AV} (f:cs.length=len*k) (h:(2*(len+n)+1024)*by_<=281474976710656/\len+n<4611686018427387904) (d:cs.all AV.isCell=true) (e:new.all AV.isCell=true):
 apG s (some (aW g cs)) g len k by_ n new=some (.val' (.sl s.n 0 0 (len+n) (.room k)) (s.push (ob (cs++new)))):=by
 have a:Nat.ble (len*k) cs.length=true:=by simp [f]
 have b:(Tr.leaf.lay 0 cs).row 0 (len*k)=some cs:=by rw [Tr.row_lay _ _ _ (by omega),kW (by omega)]
 have c:(cs++new).all AV.isCell=true:=by rw [List.all_append,d,e];rfl
 simp only [apG,aW,Nat.beq_refl,a,Bool.and_self,cond_true,b,gX,zL h,rA,c,if_true]
theorem PV {k n:Nat}:tF k n n=.room k:=by simp [tF]
theorem aGk {k id g off len:Nat} {j:IntKind} {a:Int} {d:Option AV} (b:0<=a) (e:a<len):OD (some k) (.sl id g off len (.room k)) (some (.int j a)) none none d=some (.sl id g (off+a.toNat*k) (len-a.toNat) (.room k)):=by
 have c:Nat.blt a.toNat len=true:=by simp;omega
 simp only [OD,mQ,lN,lG b (show a<=(len:Int) by omega),Nat.beq_refl,c,cond_true,PV]
theorem aGl {P:Program} {s:Sto} {c:Array TypeId} {k:IntKind} {a b:Int}:abuiltin P s .min c [.int k a,.int k b]=some (.val (.int k (if b<a then b else a))):=by
 have:abuiltin P s .min c [.int k a,.int k b]=valO (lR false [.int k a,.int k b]):=by
  unfold abuiltin;cases h:c[0]?<;>rfl
 rw [this];simp only [lR,rM,decide_true,cond_true,cond_false,uV,valO]
theorem aGm {P:Program} {s:Sto} {c:Array TypeId} {k:IntKind} {a b:Int}:abuiltin P s .max c [.int k a,.int k b]=some (.val (.int k (if b > a then b else a))):=by
 have:abuiltin P s .max c [.int k a,.int k b]=valO (lR true [.int k a,.int k b]):=by
  unfold abuiltin;cases h:c[0]?<;>rfl
 rw [this];simp only [lR,rM,decide_true,cond_true,uV,valO]
section
variable {P:Program} {O:Orc} {H:dT}
theorem PW {o:Option AV} {K a:ORes->Prop} (h:∀ r,K r->a r) (d:nR o K):nR o a:=by obtain ⟨v,b,c⟩:=d;exact ⟨v,b,h _ c⟩
theorem PX {o:Option Sto} {K a:ORes->Prop} (h:∀ r,K r->a r) (d:MP o K):MP o a:=by obtain ⟨v,b,c⟩:=d;exact ⟨v,b,h _ c⟩
theorem yG {o:Option ORes} {K a:ORes->Prop} (h:∀ r,K r->a r) (d:sE o K):sE o a:=by obtain ⟨v,b,c⟩:=d;exact ⟨v,b,h _ c⟩
theorem LA {K a:ORes->Prop} (h:∀ r,K r->a r):∀ r,vK K r->vK a r:=fun r b=>by cases r<;>first | exact h _ b | exact b.elim
theorem XH {n:Nat} {K b:ORes->Prop} (h:∀ r,K r->b r):∀ r,cK n K r->cK n b r:=fun r a=>by cases r<;>first | exact ⟨a.1,h _ a.2⟩ | exact a.elim
theorem aLf {F:Sto->Option ORes} {Y:Nat->Prop} {s:Sto} {K b:ORes->Prop} (h:∀ r,K r->b r):∀ r,cF F Y s K r->cF F Y s b r:=fun r a=>by cases r<;>first | exact ⟨a.1,h _ a.2⟩ | exact a.elim
theorem XI {kd:Nat} {Y:Nat->Prop} {op:Op} {e:Env} {K y:ORes->Prop} (h:∀ r,K r->y r) (d:sD P O kd Y op e K):sD P O kd Y op e y:=by
 have A:∀ {op:Op},eI P O op e K->eI P O op e y:=fun A=>by obtain ⟨n,r,q,u⟩:=A;exact ⟨n,r,q,h _ u⟩
 have J:∀ {F:Sto->Option CRes} {r:Option CRes} {t:Prop} {s:Sto},GW F r t s K->GW F r t s y:=by
  intro F r t s o
  match r,o with
  | some (.ret v none),o=>exact ⟨o.1,h _ o.2⟩
  | some (.ret v (some G)),o=>exact ⟨o.1,o.2.1,h _ o.2.2⟩
  | some (.pan v none),o=>exact ⟨o.1,h _ o.2⟩
  | some (.pan v (some G)),o=>exact ⟨o.1,o.2.1,h _ o.2.2⟩
  | none,o=>exact o.elim
 have D:∀ {B:AV} {args:List AV} {s:Sto},vG P O kd B args s K->vG P O kd B args s y:=by
  intro B args s o;unfold vG at o ⊢;split
  ·exact J o
  ·refine ⟨o.1,o.2.mono fun res w=>?_⟩
   match res,w with
   | .ret v (some G),w=>exact ⟨w.1,h _ w.2⟩
   | .pan v (some G),w=>exact ⟨w.1,h _ w.2⟩
   | .ret v none,_=>trivial
   | .pan v none,_=>trivial
  ·rename_i q u
   split at o
   ·rename_i g a b;exact absurd rfl (q g a b)
   ·rename_i g a b;exact absurd rfl (u g a b)
   ·exact o.elim
 cases op with
 | load ty a=>exact ⟨d.1,PW h d.2⟩
 | lookup ty m k ok=>exact ⟨d.1,PW h d.2⟩
 | convert L dst x=>exact ⟨d.1,yG (LA h) d.2⟩
 | store ty a x=>exact ⟨d.1,PX (XH h) d.2⟩
 | mapUpdate ty m k x=>exact ⟨d.1,PX (XH h) d.2⟩
 | alloc ty=>obtain ⟨v,q,u,C⟩:=d;exact ⟨v,q,u,h _ C⟩
 | box ty x=>obtain ⟨I,q,u,C⟩:=d;exact ⟨I,q,u,h _ C⟩
 | buildSlice ty len E=>exact ⟨d.1,A d.2⟩
 | makeSlice ty l c=>exact ⟨d.1,A d.2⟩
 | call c=>
   obtain ⟨p,args,M⟩:=c
   cases p with
   | builtin b=>cases b<;>first | exact ⟨d.1,yG (LA h) d.2⟩ | exact yG (LA h) d | exact ⟨d.1,yG (aLf h) d.2⟩
   | value f=>exact D d
   | invoke _ _=>exact d.elim
 | _=>exact ⟨d.1,A d.2⟩
theorem aBm {dst:Option Tmp} {e:Env} {md:Bool} {n0:Nat} {X:Nat->Prop} {nw:Bool} {i:Nat} {N:List (Nat × Nat)} {next next':List (Nat × Nat)->Env->Prop} {f b:AV->Sto->Prop} (h:∀ N e,next N e->next' N e) (k:∀ v s,f v s->b v s):∀ r,vU dst e md n0 X nw i N next f r->vU dst e md n0 X nw i N next' b r:=fun r a=>by
 cases r with
 | val v=>obtain ⟨e',c,d⟩:=a;exact ⟨e',c,h _ _ d⟩
 | val' v s=>obtain ⟨l,e',c,d⟩:=a;exact ⟨l,e',c,h _ _ d⟩
 | pan v s=>exact ⟨a.1,k _ _ a.2⟩
 | _=>exact a.elim
theorem XJ {qs ps:List Nat} {ops:List Oper} {c:Env} {Q f:Ex->Env->Prop} (m:∀ p e,Q p e->f p e):∀ (rest:List Oper) (i:Nat) (N:List (Nat × Nat)) (e:Env),Wd P O qs ps ops c Q rest i N e->Wd P O qs ps ops c f rest i N e
 | [],i,N,e,h=>m _ _ h
 | o::rest,i,N,e,h=>by
   have y:∀ v s,JT ops c Q i v s->JT ops c f i v s:=fun v s a=>⟨a.1,m _ _ a.2⟩
   have k:=aBm (dst:=o.dst) (e:=e) (md:=JQ ps i o.op) (n0:=nD ps c.s.n) (X:=xD ps) (nw:=dF o.op) (i:=i) (N:=N) (next:=Wd P O qs ps ops c Q rest (i+1)) (next':=Wd P O qs ps ops c f rest (i+1)) (fun N e a=>XJ m rest (i+1) N e a) y;unfold Wd at h ⊢
   cases q:o.guard with
   | none=>rw [q]at h;exact XI k h
   | some g=>
     obtain ⟨j,r⟩:=g;rw [q]at h;simp only at h ⊢;unfold gL at h ⊢;split
     ·rename_i b d
      rw [d]at h;exact ⟨fun a=>XI k (h.1 a),fun a=>k _ (h.2 a)⟩
     ·rename_i l d
      rw [d]at h;exact k _ h
     ·rename_i u w
      split at h
      ·rename_i b d;exact absurd d (u b)
      ·rename_i l d;exact absurd d (w l)
      ·exact h.elim
theorem Wk.mono:∀ {c:Code} {H:dT} {e:Env} {Q k:Ex->Env->Prop},(∀ p e,Q p e->k p e)->Wk P O H c e Q->Wk P O H c e k:=by
 intro c
 induction c with
 | skip=>intro H e Q k d h;exact d _ _ h
 | label l=>intro H e Q k d h;exact d _ _ h
 | region i ops v=>
   intro H e Q k d h
   cases v with
   | false=>obtain ⟨n,p,e',w,A⟩:=h;exact ⟨n,p,e',w,d _ _ A⟩
   | true=>exact ⟨h.1,h.2.1,XJ d _ _ _ _ h.2.2⟩
 | seq a b o B=>
   intro H e Q k d h;refine o (fun p e' u=>?_) h
   cases p with
   | normal=>exact B d u
   | _=>exact d _ _ u
 | cond q x y C D=>
   intro H e Q k d h
   rcases h with ⟨w,A⟩ | ⟨w,A⟩
   ·exact .inl ⟨w,C d A⟩
   ·exact .inr ⟨w,D d A⟩
 | block id a o=>
   intro H e Q k d h;refine o (fun p e' u=>?_) h
   cases p with
   | exit j=>
     have r:(bif Nat.beq j id then Q .normal e' else Q (.exit j) e'):=u;show (bif Nat.beq j id then k .normal e' else k (.exit j) e')
     cases E:Nat.beq j id with
     | true=>rw [E]at r;exact d _ _ r
     | false=>rw [E]at r;exact d _ _ r
   | _=>exact d _ _ u
 | loop a o=>
   intro H e Q k d h;obtain ⟨α,I,m,x,G,L⟩:=h;refine ⟨α,I,m,x,G,fun a e J=>(L a e J).imp fun M F=>o (fun p e' u=>?_) F⟩
   cases p with
   | normal=>exact u
   | _=>exact d _ _ u
 | scope a o=>intro H e Q k d h;exact o d h
 | exit id=>intro H e Q k d h;exact d _ _ h
 | ret=>intro H e Q k d h;exact d _ _ h
 | rangeFunc f ps a b=>intro H e Q k d h;exact W.mono h d
 | _=>intro H e Q k d h;exact h.elim
def aNr (id:Nat) (M:Env->Prop) (Q:Ex->Env->Prop):Ex->Env->Prop:=fun ex e=>match ex with
 | .exit j=>if j=id then M e else Q (.exit j) e
 | ex=>Q ex e
@[congr] theorem aNs {id:Nat} {M:Env->Prop} {Q:Ex->Env->Prop} {x x':Ex} {e e':Env} (h:x=x') (h':e=e'):aNr id M Q x e=aNr id M Q x' e':=by rw [h,h']
end
end
end Go.Abs
