/-
  The abstract machine: calls that turn objects of their caller, and return what is frozen.
-/
import Derived.Test.YtdipddlhenoglaaGreatEp
set_option linter.unusedVariables false
set_option linter.unusedSimpArgs false
namespace Go.Abs
noncomputable section
variable {P:Program} {O:bM} {H:cU}
def fJ (f:FuncId) (R:List AV->Sto->CRes->Prop):mN:=⟨f,fun args s=>@dite _ (∃ res,R args s res) (Classical.propDecidable _) (fun h=>some h.choose) fun _=>none⟩
theorem pK {f:FuncId} {R:List AV->Sto->CRes->Prop} (h:∀ args s res,R args s res->bU P f args s res):cC P (fJ f R):=by
 intro args s res hr
 simp only [fJ]at hr
 split at hr
 ·rename_i hx
  cases hr
  exact h _ _ _ hx.choose_spec
 ·cases hr
theorem vU {g g':Nat} {cs cs':List AV} (h:aX g cs=aX g' cs'):g=g'/\cs=cs':=by
 simp only [aX,AObj.cells.injEq]at h
 obtain ⟨h1,h2,h3⟩:=h
 refine ⟨h1,List.ext_getElem? fun i=>?_⟩
 rw [<-Tr.get_row cs i,<-Tr.get_row cs' i,h3]
end
end Go.Abs
/-
 The abstract machine: calls that are run in place,and leave what was there as it was.
-/
namespace Go.Abs
noncomputable section
variable {P:Program} {O:bM} {H:cU}
def RetS (P:Program) (O:bM) (fv:AV) (args:List AV) (s:Sto) (v:AV):Prop:=∃ so,Sim s (so.getD s)/\∃ n rr,aO P O n fv args s .no=some (.ret v so,rr)
theorem RetS.of {fv:AV} {args:List AV} {s:Sto} {v:AV} (h:Wcall P O fv args s fun res=>∃ so,res=.ret v so/\Sim s (so.getD s)):RetS P O fv args s v:=by
 obtain ⟨n,res,rr,h1,so,rfl,h2⟩:=h
 exact ⟨so,h2,n,rr,h1⟩
def aPf (P:Program) (rs:List ResultVar) (v:AV) (s:Sto):Ex->Env->Prop
 | .normal,e=>e.ds=[]/\e.r=.no/\tS (aR P e rs) (fun S r=>r=v/\Sim s S) e.s
 | .ret,e=>e.ds=[]/\e.r=.no/\tS (aR P e rs) (fun S r=>r=v/\Sim s S) e.s
 | _,_=>False
theorem RetS.run {g:FuncId} {first cap args:List AV} {s:Sto} {v:AV} {fn:Func} {c:Code} {N:Nat} {rs:List ResultVar} (H:cU) (ho:O g (first++args++cap) s=none) (hok:okFn P g=true) (hf:P.funcs[g]?=some fn) (hn:fn.ntmps=N) (hr:fn.results=rs.toArray) (hb:fn.body=some c)
 (ha:Nat.ble (first++args++cap).length N=true) (h:Wk P O H c ⟨N,none,g,Tr.leaf.lay 0 (first++args++cap),[],⟨s.n,s.n,s.o⟩,.no⟩ (aPf P rs v s)):RetS P O (.func (.func g) first cap) args s v:=by
 refine .of (sS ho hok hf hb ?_)
 have he:BX fn g (first++args++cap) s .no=⟨N,none,g,Tr.leaf.lay 0 (first++args++cap),[],⟨s.n,s.n,s.o⟩,.no⟩:=gJ hn ha
 rw [he]
 refine h.sound.mono fun ex e hq=>?_
 have key:e.ds=[]/\e.r=.no/\tS (aR P e rs) (fun S r=>r=v/\Sim s S) e.s->Lv P O fn none e (clR s fun res _=>∃ so,res=.ret v so/\Sim s (so.getD s)):=by
  rintro ⟨h1,h2,vs,h3,rfl,h4⟩
  refine pL h1 (by rw [hr];exact h3) ⟨_,rfl,?_⟩
  exact kK s _ e (fun S=>Sim s S) (fun _ _ a b=>b.trans a) h4 (.inr (Sim.refl s))
 cases ex with
 | normal=>exact key hq
 | ret=>exact key hq
 | _=>exact hq.elim
end
end Go.Abs
/-
 The abstract machine: panics,interfaces,what is deferred and recovered.
-/
namespace Go.Abs
noncomputable section
variable {P:Program} {O:bM} {H:cU}
theorem SI {op:Op} {e:Env} {K:ORes->Prop} {r:Option ORes} (h:∀ n,dW P (aO P O n) op e=r):dI P O op e K↔∃ x,r=some x/\K x:=by
 constructor
 ·rintro ⟨n,x,h1,h2⟩
  rw [h]at h1
  exact ⟨x,h1,h2⟩
 ·rintro ⟨x,h1,h2⟩
  exact ⟨0,x,by rw [h];exact h1,h2⟩
def ifK (P:Program) (t:TypeId):Bool:=match P.underlying t with
 | some (.interface _)=>false
 | some _=>true
 | none=>false
def aGm (P:Program) (t:TypeId) (v:AV):Option AV:=bif ifK P t then some (.iface t v) else none
theorem aBm {t:TypeId} {x:Operand} {e:Env} {K:ORes->Prop}:dI P O (.makeInterface t x) e K↔mD (aGm P t (e.eval x)) K:=by
 rw [SI (r:=match P.underlying t with | some (.interface _)=>none | some _=>some (.val (.iface t (e.eval x))) | none=>none) fun _=>rfl]
 unfold aGm ifK mD
 cases h:P.underlying t with
 | none=>simp
 | some d=>cases d<;>simp
theorem HL {t:TypeId} {v:AV} (h:ifK P t=true):aGm P t v=some (.iface t v):=by simp [aGm,h]
def taV (P:Program) (v:AV) (t:TypeId) (z:Option AV):Option AV:=match v with
 | .iface d v=>bif Nat.beq d t then some (.tuple [v,.bool true]) else z.map fun z=>.tuple [z,.bool false]
 | _=>none
theorem aJz {x:Operand} {u t:TypeId} {e:Env} {K:ORes->Prop} (hi:ifK P t=true) {d:TypeId} {v:AV} (h:e.eval x=.iface d v):dI P O (.typeAssert x u t true) e K↔mD (taV P (.iface d v) t (bB P t)) K:=by
 unfold ifK at hi
 have hr:∀ n,dW P (aO P O n) (.typeAssert x u t true) e=(taV P (.iface d v) t (bB P t)).map .val:=by
  intro n
  show (match P.underlying t,e.eval x with
   | some (.interface _),.nili=>bif true then (match bB P t with | some z=>some (ORes.val (.tuple [z,.bool false])) | none=>none) else none
   | some (.interface want),.iface d v=>match P.info? d with
     | some i=>bif oU want i.methods then (bif true then (match bB P t with | some z=>some (ORes.val (.tuple [z,.bool false])) | none=>none) else none)
      else some (.val (bif true then .tuple [.iface d v,.bool true] else .iface d v))
     | none=>none
   | some _,.nili=>bif true then (match bB P t with | some z=>some (ORes.val (.tuple [z,.bool false])) | none=>none) else none
   | some _,.iface d v=>bif Nat.beq d t then some (.val (bif true then .tuple [v,.bool true] else v))
    else bif true then (match bB P t with | some z=>some (ORes.val (.tuple [z,.bool false])) | none=>none) else none
   | _,_=>none)=_
  rw [h]
  unfold taV
  cases hu:P.underlying t with
  | none=>rw [hu]at hi;cases hi
  | some td=>
    rw [hu]at hi
    cases td<;>first | (cases hi;done) | (simp only [cond_true];cases Nat.beq d t<;>simp;cases bB P t<;>rfl)
 rw [SI hr]
 unfold mD
 cases taV P (.iface d v) t (bB P t)<;>simp
end
end Go.Abs
/-
 The abstract machine: appends to a row that is full;parts of slices with room.
-/
namespace Go.Abs
noncomputable section
def apG (s:Sto) (o:Option AObj) (g len k by_ n:Nat) (new:List AV):Option ORes:=match o with
 | some (.cells g' m cs)=>bif Nat.beq g g'&&Nat.ble (len*k) m then (match cs.row 0 (len*k) with
   | some old=>fA s k by_ old new (len+n)
   | none=>none) else none
 | _=>none
theorem aBn {s:Sto} {k by_ id g len c n:Nat} {new:List AV} (h:c<len+n):apF s k by_ (.sl id g 0 len (.is c)) (some (n,new))=apG s (s.get id) g len k by_ n new:=by
 have h1:Nat.ble (len+n) c=false:=by
  cases hb:Nat.ble (len+n) c with
  | false=>rfl
  | true=>have:=Nat.le_of_ble_eq_true hb;omega
 have h2:Nat.ble len len=true:=by simp
 simp only [apF,h1,cond_false,dJ,h2,cond_true,apG,Nat.zero_add]
 cases s.get id with
 | none=>rfl
 | some o=>cases o with
   | cells g' m cs=>
     simp only
     cases Nat.beq g g'&&Nat.ble (len*k) m<;>rfl
   | _=>rfl
theorem SJ {s:Sto} {g len k by_ n:Nat} {cs new:List AV} (hl:cs.length=len*k) (hr:(2*(len+n)+1024)*by_<=281474976710656/\len+n<4611686018427387904) (h1:cs.all AV.isCell=true) (h2:new.all AV.isCell=true):
 apG s (some (aX g cs)) g len k by_ n new=some (.val' (.sl s.n 0 0 (len+n) (.room k)) (s.push (ob (cs++new)))):=by
 have g1:Nat.ble (len*k) cs.length=true:=by simp [hl]
 have g2:(Tr.leaf.lay 0 cs).row 0 (len*k)=some cs:=by rw [Tr.row_lay _ _ _ (by omega),CD (by omega)]
 have g3:(cs++new).all AV.isCell=true:=by rw [List.all_append,h1,h2];rfl
 simp only [apG,aX,Nat.beq_refl,g1,Bool.and_self,cond_true,g2,fA,sU hr,mX,g3,if_true]
theorem yV {k n:Nat}:eX k n n=.room k:=by simp [eX]
theorem aKa {k id g off len:Nat} {j:IntKind} {b:Int} {d:Option AV} (h0:0<=b) (h1:b<=len) (h2:0<len):PI (some k) (.sl id g off len (.room k)) none (some (.int j b)) none d=some (.sl id g off b.toNat (eX k b.toNat len)):=by
 have hb:Nat.blt 0 len=true:=by simp;omega
 simp only [PI,qC,lZ,lG h0 h1,Nat.beq_refl,hb,cond_true,Nat.zero_mul,Nat.add_zero,Nat.sub_zero]
theorem PA {P:Program} {s:Sto} {ts:Array TypeId} {k:IntKind} {a b:Int}:aV P s .min ts [.int k a,.int k b]=some (.val (.int k (if b<a then b else a))):=by
 have:aV P s .min ts [.int k a,.int k b]=valO (kP false [.int k a,.int k b]):=by
  unfold aV
  cases h:ts[0]?<;>rfl
 rw [this]
 simp only [kP,qD,decide_true,cond_true,cond_false,tH,valO,jX]
theorem aBo {P:Program} {s:Sto} {ts:Array TypeId} {k:IntKind} {a b:Int}:aV P s .max ts [.int k a,.int k b]=some (.val (.int k (if b > a then b else a))):=by
 have:aV P s .max ts [.int k a,.int k b]=valO (kP true [.int k a,.int k b]):=by
  unfold aV
  cases h:ts[0]?<;>rfl
 rw [this]
 simp only [kP,qD,decide_true,cond_true,cond_false,tH,valO,jX]
section
variable {P:Program} {O:bM} {H:cU}
theorem KP {o:Option AV} {K K':ORes->Prop} (h:∀ r,K r->K' r) (hk:mD o K):mD o K':=by obtain ⟨v,h1,h2⟩:=hk;exact ⟨v,h1,h _ h2⟩
theorem KQ {o:Option Sto} {K K':ORes->Prop} (h:∀ r,K r->K' r) (hk:LP o K):LP o K':=by obtain ⟨v,h1,h2⟩:=hk;exact ⟨v,h1,h _ h2⟩
theorem vV {o:Option ORes} {K K':ORes->Prop} (h:∀ r,K r->K' r) (hk:qP o K):qP o K':=by obtain ⟨v,h1,h2⟩:=hk;exact ⟨v,h1,h _ h2⟩
theorem HM {K K':ORes->Prop} (h:∀ r,K r->K' r):∀ r,vK K r->vK K' r:=fun r hk=>by cases r<;>first | exact h _ hk | exact hk.elim
theorem SK {n:Nat} {K K':ORes->Prop} (h:∀ r,K r->K' r):∀ r,cK n K r->cK n K' r:=fun r hk=>by cases r<;>first | exact ⟨hk.1,h _ hk.2⟩ | exact hk.elim
theorem aGn {F:Sto->Option ORes} {Y:Nat->Prop} {s:Sto} {K K':ORes->Prop} (h:∀ r,K r->K' r):∀ r,cF F Y s K r->cF F Y s K' r:=fun r hk=>by cases r<;>first | exact ⟨hk.1,h _ hk.2⟩ | exact hk.elim
theorem SL {kd:Nat} {Y:Nat->Prop} {op:Op} {e:Env} {K K':ORes->Prop} (h:∀ r,K r->K' r) (hk:sD P O kd Y op e K):sD P O kd Y op e K':=by
 have hw:∀ {op:Op},dI P O op e K->dI P O op e K':=fun hw=>by obtain ⟨n,r,h1,h2⟩:=hw;exact ⟨n,r,h1,h _ h2⟩
 have ho:∀ {F:Sto->Option CRes} {r:Option CRes} {t:Prop} {s:Sto},DQ F r t s K->DQ F r t s K':=by
  intro F r t s hx
  match r,hx with
  | some (.ret v none),hx=>exact ⟨hx.1,h _ hx.2⟩
  | some (.ret v (some s')),hx=>exact ⟨hx.1,hx.2.1,h _ hx.2.2⟩
  | some (.pan v none),hx=>exact ⟨hx.1,h _ hx.2⟩
  | some (.pan v (some s')),hx=>exact ⟨hx.1,hx.2.1,h _ hx.2.2⟩
  | none,hx=>exact hx.elim
 have hcd:∀ {fv:AV} {args:List AV} {s:Sto},tR P O kd fv args s K->tR P O kd fv args s K':=by
  intro fv args s hx
  unfold tR at hx ⊢
  split
  ·exact ho hx
  ·refine ⟨hx.1,hx.2.mono fun res hr=>?_⟩
   match res,hr with
   | .ret v (some s'),hr=>exact ⟨hr.1,h _ hr.2⟩
   | .pan v (some s'),hr=>exact ⟨hr.1,h _ hr.2⟩
   | .ret v none,_=>trivial
   | .pan v none,_=>trivial
  ·rename_i h1 h2
   split at hx
   ·rename_i g a b;exact absurd rfl (h1 g a b)
   ·rename_i g a b;exact absurd rfl (h2 g a b)
   ·exact hx.elim
 cases op with
 | load ty a=>exact ⟨hk.1,KP h hk.2⟩
 | lookup ty m k ok=>exact ⟨hk.1,KP h hk.2⟩
 | convert src dst x=>exact ⟨hk.1,vV (HM h) hk.2⟩
 | store ty a x=>exact ⟨hk.1,KQ (SK h) hk.2⟩
 | mapUpdate ty m k x=>exact ⟨hk.1,KQ (SK h) hk.2⟩
 | alloc ty=>obtain ⟨v,h1,h2,h3⟩:=hk;exact ⟨v,h1,h2,h _ h3⟩
 | box ty x=>obtain ⟨h0,h1,h2,h3⟩:=hk;exact ⟨h0,h1,h2,h _ h3⟩
 | buildSlice ty len parts=>exact ⟨hk.1,hw hk.2⟩
 | makeSlice ty l c=>exact ⟨hk.1,hw hk.2⟩
 | call c=>
   obtain ⟨callee,args,ts⟩:=c
   cases callee with
   | builtin b=>cases b<;>first | exact ⟨hk.1,vV (HM h) hk.2⟩ | exact vV (HM h) hk | exact ⟨hk.1,vV (aGn h) hk.2⟩
   | value f=>exact hcd hk
   | invoke _ _=>exact hk.elim
 | _=>exact ⟨hk.1,hw hk.2⟩
theorem VK {dst:Option Tmp} {e:Env} {md:Bool} {n0:Nat} {X:Nat->Prop} {nw:Bool} {i:Nat} {N:List (Nat × Nat)} {next next':List (Nat × Nat)->Env->Prop} {pn pn':AV->Sto->Prop} (h:∀ N e,next N e->next' N e) (h':∀ v s,pn v s->pn' v s):∀ r,uO dst e md n0 X nw i N next pn r->uO dst e md n0 X nw i N next' pn' r:=fun r hk=>by
 cases r with
 | val v=>obtain ⟨e',h1,h2⟩:=hk;exact ⟨e',h1,h _ _ h2⟩
 | val' v s=>obtain ⟨h0,e',h1,h2⟩:=hk;exact ⟨h0,e',h1,h _ _ h2⟩
 | pan v s=>exact ⟨hk.1,h' _ _ hk.2⟩
 | _=>exact hk.elim
theorem SM {qs ps:List Nat} {ops:List Oper} {e0:Env} {Q Q':Ex->Env->Prop} (hQ:∀ ex e,Q ex e->Q' ex e):∀ (rest:List Oper) (i:Nat) (N:List (Nat × Nat)) (e:Env),Wd P O qs ps ops e0 Q rest i N e->Wd P O qs ps ops e0 Q' rest i N e
 | [],i,N,e,h=>hQ _ _ h
 | o::rest,i,N,e,h=>by
   have hp:∀ v s,HW ops e0 Q i v s->HW ops e0 Q' i v s:=fun v s hx=>⟨hx.1,hQ _ _ hx.2⟩
   have hm:=VK (dst:=o.dst) (e:=e) (md:=HU ps i o.op) (n0:=nD ps e0.s.n) (X:=xD ps) (nw:=cQ o.op) (i:=i) (N:=N) (next:=Wd P O qs ps ops e0 Q rest (i+1)) (next':=Wd P O qs ps ops e0 Q' rest (i+1)) (fun N e hx=>SM hQ rest (i+1) N e hx) hp
   unfold Wd at h ⊢
   cases hg:o.guard with
   | none=>rw [hg]at h;exact SL hm h
   | some g=>
     obtain ⟨j,want⟩:=g
     rw [hg]at h
     simp only at h ⊢
     unfold fQ at h ⊢
     split
     ·rename_i b hb
      rw [hb]at h
      exact ⟨fun hx=>SL hm (h.1 hx),fun hx=>hm _ (h.2 hx)⟩
     ·rename_i l hb
      rw [hb]at h
      exact hm _ h
     ·rename_i h1 h2
      split at h
      ·rename_i b hb;exact absurd hb (h1 b)
      ·rename_i l hb;exact absurd hb (h2 l)
      ·exact h.elim
theorem Wk.mono:∀ {c:Code} {H:cU} {e:Env} {Q Q':Ex->Env->Prop},(∀ ex e,Q ex e->Q' ex e)->Wk P O H c e Q->Wk P O H c e Q':=by
 intro c
 induction c with
 | skip=>intro H e Q Q' hQ h;exact hQ _ _ h
 | label l=>intro H e Q Q' hQ h;exact hQ _ _ h
 | region i ops draw=>
   intro H e Q Q' hQ h
   cases draw with
   | false=>obtain ⟨n,ex,e',h1,h2⟩:=h;exact ⟨n,ex,e',h1,hQ _ _ h2⟩
   | true=>exact ⟨h.1,h.2.1,SM hQ _ _ _ _ h.2.2⟩
 | seq a b iha ihb=>
   intro H e Q Q' hQ h
   refine iha (fun ex e' hx=>?_) h
   cases ex with
   | normal=>exact ihb hQ hx
   | _=>exact hQ _ _ hx
 | cond q x y ihx ihy=>
   intro H e Q Q' hQ h
   rcases h with ⟨h1,h2⟩ | ⟨h1,h2⟩
   ·exact .inl ⟨h1,ihx hQ h2⟩
   ·exact .inr ⟨h1,ihy hQ h2⟩
 | block id a iha=>
   intro H e Q Q' hQ h
   refine iha (fun ex e' hx=>?_) h
   cases ex with
   | exit j=>
     have hx':(bif Nat.beq j id then Q .normal e' else Q (.exit j) e'):=hx
     show (bif Nat.beq j id then Q' .normal e' else Q' (.exit j) e')
     cases hb:Nat.beq j id with
     | true=>rw [hb]at hx';exact hQ _ _ hx'
     | false=>rw [hb]at hx';exact hQ _ _ hx'
   | _=>exact hQ _ _ hx
 | loop a iha=>
   intro H e Q Q' hQ h
   obtain ⟨α,I,m,x,h0,hs⟩:=h
   refine ⟨α,I,m,x,h0,fun a e hI=>(hs a e hI).imp fun H' h'=>iha (fun ex e' hx=>?_) h'⟩
   cases ex with
   | normal=>exact hx
   | _=>exact hQ _ _ hx
 | scope a iha=>intro H e Q Q' hQ h;exact iha hQ h
 | exit id=>intro H e Q Q' hQ h;exact hQ _ _ h
 | ret=>intro H e Q Q' hQ h;exact hQ _ _ h
 | rangeFunc f ps a b=>intro H e Q Q' hQ h;exact W.mono h hQ
 | _=>intro H e Q Q' hQ h;exact h.elim
def aIl (id:Nat) (M:Env->Prop) (Q:Ex->Env->Prop):Ex->Env->Prop:=fun ex e=>match ex with
 | .exit j=>if j=id then M e else Q (.exit j) e
 | ex=>Q ex e
@[congr] theorem aIm {id:Nat} {M:Env->Prop} {Q:Ex->Env->Prop} {x x':Ex} {e e':Env} (h:x=x') (h':e=e'):aIl id M Q x e=aIl id M Q x' e':=by rw [h,h']
end
end
end Go.Abs
