/-
  The abstract machine: the walk.
-/
import Derived.Test.YthakciolcdlphaaGreatEe
set_option linter.unusedVariables false
set_option linter.unusedSimpArgs false
namespace Go.Abs
noncomputable section
abbrev cJ:=Nat->List Nat × List Nat
def aN:cJ:=fun _=>([],[])
def Wk (P:Program) (O:bN):cJ->Code->Env->(Ex->Env->Prop)->Prop
 | _,.skip,e,Q=>Q .normal e
 | _,.label _,e,Q=>Q .normal e
 | H,.region i ops draw,e,Q=>match draw with
   | false=>Wo P O ops.toList ops.toList e Q
   | true=>P.follows .mixedOrders=true/\sOk (H i).1 (H i).2 ops.toList=true/\Wd P O (H i).1 (H i).2 ops.toList e Q ops.toList 0 [] e
 | H,.seq a b,e,Q=>Wk P O H a e fun ex e'=>match ex with
   | .normal=>Wk P O H b e' Q
   | ex=>Q ex e'
 | H,.cond c x y,e,Q=>(e.eval c=.bool true/\Wk P O H x e Q)∨(e.eval c=.bool false/\Wk P O H y e Q)
 | H,.block id c,e,Q=>Wk P O H c e (eN id Q)
 | _,.loop c,e,Q=>∃ (α:Type) (I:α->Env->Prop) (m:α->Nat) (a:α),I a e/\∀ a e,I a e->∃ H:cJ,Wk P O H c e fun ex e'=>match ex with
   | .normal=>∃ a',m a'<m a/\I a' e'
   | ex=>Q ex e'
 | H,.scope c,e,Q=>Wk P O H c e Q
 | _,.exit id,e,Q=>Q (.exit id) e
 | _,.ret,e,Q=>Q .ret e
 | _,.rangeFunc f ps a b,e,Q=>W P O (.rangeFunc f ps a b) e Q
 | _,_,_,_=>False
section
variable {P:Program} {O:bN} {H:cJ}
theorem Wk.sound:∀ {c:Code} {H:cJ} {e:Env} {Q:Ex->Env->Prop},Wk P O H c e Q->W P O c e Q:=by
 intro c
 induction c with
 | skip=>intro H e Q h;exact aKg.2 h
 | label l=>intro H e Q h;exact aGt.2 h
 | region i ops draw=>
   intro H e Q h
   cases draw with
   | false=>have:=aBq (P:=P) (O:=O) (i:=i) (l:=ops.toList) (e:=e) (Q:=Q);simp only [Array.toArray_toList]at this;exact this.2 h
   | true=>obtain ⟨h1,h2,h3⟩:=h;have:=aKb (P:=P) (O:=O) _ _ (i:=i) h1 h2 h3;simpa only [Array.toArray_toList] using this
 | seq a b iha ihb=>
   intro H e Q h
   refine aNo.2 ((iha h).mono fun ex e' hq=>?_)
   cases ex with
   | normal=>exact ihb hq
   | _=>exact hq
 | cond q x y ihx ihy=>
   intro H e Q h
   refine aKf.2 ?_
   rcases h with ⟨h1,h2⟩ | ⟨h1,h2⟩
   ·exact .inl ⟨h1,ihx h2⟩
   ·exact .inr ⟨h1,ihy h2⟩
 | block id a iha=>intro H e Q h;exact aGs.2 (iha h)
 | loop a iha=>
   intro H e Q h
   obtain ⟨α,I,m,x,h0,hs⟩:=h
   exact aKi I m x h0 fun a e hI=>iha (hs a e hI).choose_spec
 | scope a iha=>intro H e Q h;exact aGu.2 (iha h)
 | exit id=>intro H e Q h;exact aKh.2 h
 | ret=>intro H e Q h;exact aNp.2 h
 | rangeFunc f ps a b=>intro H e Q h;exact h
 | _=>intro H e Q h;exact h.elim
def OD (P:Program) (O:bN) (H:cJ) (b:Code) (Q:Ex->Env->Prop):Ex->Env->Prop:=fun ex e=>match ex with
 | .normal=>Wk P O H b e Q
 | ex=>Q ex e
def oE (P:Program) (O:bN) (H:cJ) (v:AV) (x y:Code) (e:Env) (Q:Ex->Env->Prop):Prop:=(v=.bool true/\Wk P O H x e Q)∨(v=.bool false/\Wk P O H y e Q)
@[congr] theorem aNf {c:Code} {e e':Env} {Q:Ex->Env->Prop} (h:e=e'):Wk P O H c e Q=Wk P O H c e' Q:=by rw [h]
@[congr] theorem aJx {b:Code} {Q:Ex->Env->Prop} {x x':Ex} {e:Env} (h:x=x'):OD P O H b Q x e=OD P O H b Q x' e:=by rw [h]
@[congr] theorem aIb {v v':AV} {x y:Code} {e:Env} {Q:Ex->Env->Prop} (h:v=v'):oE P O H v x y e Q=oE P O H v' x y e Q:=by rw [h]
@[congr] theorem aNg {qs ps:List Nat} {ops rest:List Oper} {e0 e e':Env} {Q:Ex->Env->Prop} {i i':Nat} {N N':List (Nat × Nat)} (h:e=e') (h':i=i') (h'':N=N'):Wd P O qs ps ops e0 Q rest i N e=Wd P O qs ps ops e0 Q rest i' N' e':=by rw [h,h',h'']
@[congr] theorem aJy {dst:Option Tmp} {e:Env} {md:Bool} {n0:Nat} {X:Nat->Prop} {nw:Bool} {i:Nat} {N:List (Nat × Nat)} {next:List (Nat × Nat)->Env->Prop} {pn:AV->Sto->Prop} {r r':ORes} (h:r=r'):tW dst e md n0 X nw i N next pn r=tW dst e md n0 X nw i N next pn r':=by rw [h]
@[congr] theorem aNh {kd kd':Nat} {Y:Nat->Prop} {op:Op} {e:Env} {K:ORes->Prop} (h:kd=kd'):sD P O kd Y op e K=sD P O kd' Y op e K:=by rw [h]
@[congr] theorem aGd {v v':AV} {w:Bool} {kd:Nat} {Y:Nat->Prop} {op:Op} {e:Env} {K:ORes->Prop} (h:v=v'):fM P O v w kd Y op e K=fM P O v' w kd Y op e K:=by rw [h]
@[congr] theorem aIc {kd:Nat} {fv fv':AV} {args args':List AV} {s s':Sto} {K:ORes->Prop} (h:fv=fv') (h':args=args') (h'':s=s'):tE P O kd fv args s K=tE P O kd fv' args' s' K:=by rw [h,h',h'']
@[congr] theorem aJz {F F':Sto->Option CRes} {r r':Option CRes} {t t':Prop} {s:Sto} {K:ORes->Prop} (h:F=F') (h':r=r') (h'':t=t'):CU F r t s K=CU F' r' t' s K:=by rw [h,h',h'']
theorem OE {x y:Code} {e:Env} {Q:Ex->Env->Prop}:oE P O H (.bool true) x y e Q↔Wk P O H x e Q:=by simp [oE]
theorem JR {x y:Code} {e:Env} {Q:Ex->Env->Prop}:oE P O H (.bool false) x y e Q↔Wk P O H y e Q:=by simp [oE]
theorem OF {b:Bool} {x y:Code} {e:Env} {Q:Ex->Env->Prop}:oE P O H (.bool b) x y e Q↔(b=true->Wk P O H x e Q)/\(b=false->Wk P O H y e Q):=by cases b<;>simp [oE]
theorem aGe {c:Operand} {x y:Code} {e:Env} {Q:Ex->Env->Prop}:Wk P O H (.cond c x y) e Q↔oE P O H (e.eval c) x y e Q:=.rfl
theorem UW {i:Nat} {l:List Oper} {e:Env} {Q:Ex->Env->Prop}:Wk P O H (.region i l.toArray false) e Q↔Wo P O l l e Q:=.rfl
theorem aGf {i:Nat} {l:List Oper} {e:Env} {Q:Ex->Env->Prop}:Wk P O H (.region i l.toArray true) e Q↔P.follows .mixedOrders=true/\sOk (H i).1 (H i).2 l=true/\Wd P O (H i).1 (H i).2 l e Q l 0 [] e:=.rfl
def BJ {α:Type} (I:α->Env->Prop) (m:α->Nat) (a:α) (Q:Ex->Env->Prop):Ex->Env->Prop:=fun ex e=>match ex with
 | .normal=>∃ a',m a'<m a/\I a' e
 | ex=>Q ex e
theorem aQ {α:Type} (I:α->Env->Prop) (m:α->Nat) (a:α) {c:Code} {e:Env} {Q:Ex->Env->Prop} (h0:I a e)
 (hs:∀ a e,I a e->Wk P O H c e (BJ I m a Q)):Wk P O H (.loop c) e Q:=⟨α,I,m,a,h0,fun a e h=>⟨H,hs a e h⟩⟩
theorem aId:(∀ {α:Type} {I:α->Env->Prop} {m:α->Nat} {a:α} {Q:Ex->Env->Prop} {i:Nat} {e:Env},BJ I m a Q (.exit i) e=Q (.exit i) e)/\(∀ {α:Type} {I:α->Env->Prop} {m:α->Nat} {a:α} {Q:Ex->Env->Prop} {e:Env},BJ I m a Q .ret e=Q .ret e)/\
 (∀ {α:Type} {I:α->Env->Prop} {m:α->Nat} {a:α} {Q:Ex->Env->Prop} {v:AV} {e:Env},BJ I m a Q (.panic v) e=Q (.panic v) e):=⟨rfl,rfl,rfl⟩
@[congr] theorem aIe {α:Type} {I:α->Env->Prop} {m:α->Nat} {a:α} {Q:Ex->Env->Prop} {x x':Ex} {e:Env} (h:x=x'):BJ I m a Q x e=BJ I m a Q x' e:=by rw [h]
theorem aH {L:List kL} (hL:∀ x∈L,bS P x) (H:cJ) {f:FuncId} {fn:Func} {c:Code} {N:Nat} {rs:List ResultVar} {args:List AV} {v:AV} (hok:okFn P f=true) (hf:P.funcs[f]?=some fn) (hn:fn.ntmps=N) (hr:fn.results=rs.toArray) (hb:fn.body=some c)
 (ha:Nat.ble args.length N=true) (hu:∀ x∈args,Und 0 x) (hv:Und 0 v)
 (h:Wk P (orcL L) H c ⟨N,none,f,Tr.leaf.lay 0 args,[],⟨0,0,.leaf⟩,.no⟩ (gQ P rs (fun _ r=>r=v) fun _ _=>False)):Returns P f args v:=GU hL hok hf hn hr hb ha hu hv h.sound
theorem mN {L:List kL} (hL:∀ x∈L,bS P x) (H:cJ) {f:FuncId} {fn:Func} {c:Code} {N:Nat} {rs:List ResultVar} {args:List AV} {v:AV} (hok:okFn P f=true) (hf:P.funcs[f]?=some fn) (hn:fn.ntmps=N) (hr:fn.results=rs.toArray) (hb:fn.body=some c)
 (ha:Nat.ble args.length N=true) (hu:∀ x∈args,Und 0 x)
 (h:Wk P (orcL L) H c ⟨N,none,f,Tr.leaf.lay 0 args,[],⟨0,0,.leaf⟩,.no⟩ (gQ P rs (fun S r=>Frz S 0 r v) fun _ _=>False)):Returns P f args v:=CV hL hok hf hn hr hb ha hu h.sound
end
section
theorem aNi:(∀ {P:Program} {O:bN} {H:cJ} {a b:Code} {e:Env} {Q:Ex->Env->Prop},Wk P O H (.seq a b) e Q↔Wk P O H a e (OD P O H b Q))/\
 (∀ {P:Program} {O:bN} {H:cJ} {b:Code} {e:Env} {Q:Ex->Env->Prop},OD P O H b Q .normal e=Wk P O H b e Q)/\
 (∀ {P:Program} {O:bN} {H:cJ} {b:Code} {e:Env} {Q:Ex->Env->Prop},OD P O H b Q .ret e=Q .ret e)/\
 (∀ {P:Program} {O:bN} {H:cJ} {b:Code} {e:Env} {Q:Ex->Env->Prop} {i:Nat},OD P O H b Q (.exit i) e=Q (.exit i) e)/\
 (∀ {P:Program} {O:bN} {H:cJ} {b:Code} {e:Env} {Q:Ex->Env->Prop} {v:AV},OD P O H b Q (.panic v) e=Q (.panic v) e)/\
 (∀ {P:Program} {O:bN} {H:cJ} {i:Nat} {c:Code} {e:Env} {Q:Ex->Env->Prop},Wk P O H (.block i c) e Q↔Wk P O H c e (eN i Q))/\
 (∀ {i:Nat} {e:Env} {Q:Ex->Env->Prop},eN i Q .normal e=Q .normal e)/\
 (∀ {i:Nat} {e:Env} {Q:Ex->Env->Prop},eN i Q .ret e=Q .ret e)/\
 (∀ {i:Nat} {e:Env} {Q:Ex->Env->Prop} {v:AV},eN i Q (.panic v) e=Q (.panic v) e)/\
 (∀ {i:Nat} {e:Env} {Q:Ex->Env->Prop},eN i Q (.exit i) e=Q .normal e)/\
 (∀ {i j:Nat} {e:Env} {Q:Ex->Env->Prop},j≠i->eN i Q (.exit j) e=Q (.exit j) e)/\
 (∀ {P:Program} {O:bN} {H:cJ} {x:Operand} {a b:Code} {e:Env} {Q:Ex->Env->Prop},Wk P O H (.cond x a b) e Q↔oE P O H (e.eval x) a b e Q)/\
 (∀ {P:Program} {O:bN} {H:cJ} {e:Env} {Q:Ex->Env->Prop},Wk P O H .skip e Q↔Q .normal e)/\
 (∀ {P:Program} {O:bN} {H:cJ} {l:Nat} {e:Env} {Q:Ex->Env->Prop},Wk P O H (.label l) e Q↔Q .normal e)/\
 (∀ {P:Program} {O:bN} {H:cJ} {i:Nat} {e:Env} {Q:Ex->Env->Prop},Wk P O H (.exit i) e Q↔Q (.exit i) e)/\
 (∀ {P:Program} {O:bN} {H:cJ} {e:Env} {Q:Ex->Env->Prop},Wk P O H .ret e Q↔Q .ret e)/\
 (∀ {P:Program} {O:bN} {H:cJ} {c:Code} {e:Env} {Q:Ex->Env->Prop},Wk P O H (.scope c) e Q↔Wk P O H c e Q)/\
 (∀ {P:Program} {O:bN} {H:cJ} {i:Nat} {l:List Oper} {e:Env} {Q:Ex->Env->Prop},Wk P O H (.region i l.toArray false) e Q↔Wo P O l l e Q)/\
 (∀ {P:Program} {O:bN} {H:cJ} {i:Nat} {l:List Oper} {e:Env} {Q:Ex->Env->Prop},Wk P O H (.region i l.toArray true) e Q↔P.follows .mixedOrders=true/\sOk (H i).1 (H i).2 l=true/\Wd P O (H i).1 (H i).2 l e Q l 0 [] e)/\
 (∀ {P:Program} {O:bN} {ops:List Oper} {e:Env} {Q:Ex->Env->Prop},Wo P O ops [] e Q↔Q .normal e)/\
 (∀ {P:Program} {O:bN} {ops:List Oper} {dst:Option Tmp} {op:Op} {ty:TypeId} {pos:String} {after:Array Edge} {rest:List Oper} {e:Env} {Q:Ex->Env->Prop},
   Wo P O ops ({dst:=dst,op:=op,type:=ty,pos:=pos,after:=after,guard:=none}::rest) e Q↔dH P O op e (dN P O ops dst rest e Q))/\
 (∀ {P:Program} {O:bN} {ops:List Oper} {dst:Option Tmp} {op:Op} {ty:TypeId} {pos:String} {after:Array Edge} {j:Nat} {want:Bool} {rest:List Oper} {e:Env} {Q:Ex->Env->Prop},
   Wo P O ops ({dst:=dst,op:=op,type:=ty,pos:=pos,after:=after,guard:=some (j,want)}::rest) e Q↔
    guardK P O (VJ e.t (CY ops j)) want op ops dst rest e Q)/\
 (∀ {P:Program} {O:bN} {x:Operand} {e:Env} {K:ORes->Prop},dH P O (.move x) e K↔K (.val (e.eval x)))/\
 (∀ {P:Program} {O:bN} {x:Operand} {e:Env} {K:ORes->Prop},dH P O (.assign x) e K↔K (.val (e.eval x)))/\
 (∀ {P:Program} {O:bN} {c a b:Operand} {e:Env} {K:ORes->Prop},dH P O (.pick c a b) e K↔lV (RO (e.eval c) (e.eval a) (e.eval b)) K)/\
 (∀ {P:Program} {O:bN} {op:BinOp} {ty uy:TypeId} {x y:Operand} {e:Env} {K:ORes->Prop},dH P O (.binOp op ty x y uy) e K↔lV (cX P op ty x y (e.eval x) (e.eval y)) K)/\
 (∀ {P:Program} {O:bN} {op:UnOp} {ty:TypeId} {x:Operand} {e:Env} {K:ORes->Prop},dH P O (.unOp op ty x) e K↔lV (aun op (e.eval x)) K)/\
 (∀ {P:Program} {O:bN} {ty:TypeId} {a:Operand} {e:Env} {K:ORes->Prop},dH P O (.load ty a) e K↔lV (eB P e.s ty (e.eval a)) K)/\
 (∀ {P:Program} {O:bN} {ty:TypeId} {a x:Operand} {e:Env} {K:ORes->Prop},dH P O (.store ty a x) e K↔KG (kM P e.s ty (e.eval a) (e.eval x)) K)/\
 (∀ {P:Program} {O:bN} {ty:TypeId} {x:Operand} {lo hi mx:Option Operand} {e:Env} {K:ORes->Prop},dH P O (.slice ty x lo hi mx) e K↔lV (eQ P ty (e.eval x) (lo.map e.eval) (hi.map e.eval) (mx.map e.eval)) K)/\
 (∀ {P:Program} {O:bN} {ty:TypeId} {x:Operand} {f:Nat} {e:Env} {K:ORes->Prop},dH P O (.fieldAddr ty x f) e K↔lV (bO P ty (e.eval x) f) K)/\
 (∀ {P:Program} {O:bN} {ty:TypeId} {x:Operand} {f:Nat} {e:Env} {K:ORes->Prop},dH P O (.field ty x f) e K↔lV (nL P ty (e.eval x) f) K)/\
 (∀ {P:Program} {O:bN} {ty:TypeId} {x i:Operand} {e:Env} {K:ORes->Prop},dH P O (.indexAddr ty x i) e K↔lV (bP P ty (e.eval x) (e.eval i)) K)/\
 (∀ {P:Program} {O:bN} {ty:TypeId} {x i:Operand} {e:Env} {K:ORes->Prop},dH P O (.index ty x i) e K↔lV (pS P ty (e.eval x) (e.eval i)) K)/\
 (∀ {P:Program} {O:bN} {ty:TypeId} {m k:Operand} {ok:Bool} {e:Env} {K:ORes->Prop},dH P O (.lookup ty m k ok) e K↔lV (alookup P e.s ty (e.eval m) (e.eval k) ok) K)/\
 (∀ {P:Program} {O:bN} {ty:TypeId} {m k x:Operand} {e:Env} {K:ORes->Prop},dH P O (.mapUpdate ty m k x) e K↔KG (dO P e.s ty (e.eval m) (e.eval k) (e.eval x)) K)/\
 (∀ {P:Program} {O:bN} {ty:TypeId} {parts:Array (Nat × Operand)} {e:Env} {K:ORes->Prop},dH P O (.build ty parts) e K↔lV (nK P ty (parts.toList.map fun p=>(p.1,e.eval p.2))) K)/\
 (∀ {P:Program} {O:bN} {src dst:TypeId} {x:Operand} {e:Env} {K:ORes->Prop},dH P O (.convert src dst x) e K↔qI (iB P e.s src dst (e.eval x)) K)/\
 (∀ {P:Program} {O:bN} {x:Operand} {e:Env} {K:ORes->Prop},dH P O (.nilCheck x) e K↔lV (sI (e.eval x)) K)/\
 (∀ {P:Program} {O:bN} {f:FuncId} {first cap:Array Operand} {e:Env} {K:ORes->Prop},dH P O (.makeFunc (.func f) first cap) e K↔K (.val (.func (.func f) (first.toList.map e.eval) (cap.toList.map e.eval))))/\
 (∀ {P:Program} {O:bN} {b:Builtin} {args:Array Operand} {ts:Array TypeId} {e:Env} {K:ORes->Prop},dH P O (.call {callee:=.builtin b,args:=args,argTypes:=ts}) e K↔qI (aV P e.s b ts (args.toList.map e.eval)) K)/\
 (∀ {P:Program} {O:bN} {ty:TypeId} {e:Env} {K:ORes->Prop},dH P O (.alloc ty) e K↔iM (aX P ty) e.s K)/\
 (∀ {P:Program} {O:bN} {ty:TypeId} {x:Operand} {e:Env} {K:ORes->Prop},dH P O (.box ty x) e K↔vI (e.eval x) e.s K)/\
 (∀ {P:Program} {O:bN} {f:Operand} {args:Array Operand} {ts:Array TypeId} {e:Env} {K:ORes->Prop},dH P O (.call {callee:=.value f,args:=args,argTypes:=ts}) e K↔Wcall P O (e.eval f) (args.toList.map e.eval) e.s (callK e.s K)):=
 ⟨.rfl,rfl,rfl,rfl,rfl,.rfl,CX,OP,HA,KI,fun h=>VB h,aGe,.rfl,.rfl,.rfl,.rfl,.rfl,UW,aGf,aKl,aGw,aBs,aBv,OS,aBw,VM,aBx,aBy,VN,VO,CZ,VP,DA,VQ,OT,DB,VT,KK,HE,HF,KM,DX,RP,aCa⟩
theorem aA:(∀ {t:Tr AV} {i:Nat} {a:AV},(t.set i a).val i=a)/\
 (∀ {t:Tr AV} {i j:Nat} {a:AV},j≠i->(t.set i a).val j=t.val j)/\
 (∀ {t:Tr AObj} {i:Nat} {a:AObj},(t.set i a).get i=some a)/\
 (∀ {t:Tr AObj} {i j:Nat} {a:AObj},j≠i->(t.set i a).get j=t.get j)/\
 (∀ {e:Env} {i:Nat},e.eval (.tmp i)=e.t.val i)/\
 (∀ {e:Env} {v:Value},e.eval (.const v)=HZ v)/\
 (∀ {e:Env} {f:FuncId},e.eval (.func f)=.func (.func f) [] [])/\
 (∀ {dst:Option Tmp} {op:Op} {ty:TypeId} {pos:String} {after:Array Edge} {g:Option (Nat × Bool)} {l:List Oper},CY ({dst:=dst,op:=op,type:=ty,pos:=pos,after:=after,guard:=g}::l) 0=dst)/\
 (∀ {o:Oper} {l:List Oper} {n:Nat},CY (o::l) (n+1)=CY l n)/\
 (∀ {t:Tr AV} {d:Nat},VJ t (some d)=t.val d)/\(∀ {p:Prop},(true=false->p)=True)/\(∀ {p:Prop},(false=true->p)=True)/\(∀ {p:Prop},(true=true->p)=p)/\(∀ {p:Prop},(false=false->p)=p):=
 ⟨Tr.val_set_same _ _ _,fun h=>Tr.val_set_ne _ _ _ _ h,Tr.get_set_same _ _ _,fun h=>Tr.get_set_ne _ _ h,Env.eval_tmp _ _,rfl,rfl,rfl,rfl,rfl,by simp,by simp,by simp,by simp⟩
theorem aIf:(∀ {v:AV} {K:ORes->Prop},lV (some v) K↔K (.val v))/\
 (∀ {s:Sto} {K:ORes->Prop},KG (some s) K↔K (.val' .undef s))/\
 (∀ {r:ORes} {K:ORes->Prop},qI (some r) K↔K r)/\
 (∀ {l:List AV} {C:Sto->AV->Prop} {s:Sto},sX (some l) C s↔C s (iA l))/\
 (∀ {A:Prop},aK true A↔A)/\
 (∀ {l:List AV} {s:Sto} {K:ORes->Prop},vI (.agg l) s K↔aK (l.all AV.isCell) (K (.val' (.ptr s.n 0 0) (s.push (ob l)))))/\
 (∀ {v:AV} {s:Sto} {K:ORes->Prop},v.isCell=true->(vI v s K↔K (.val' (.ptr s.n 0 0) (s.push (ob [v])))))/\
 (∀ {l:List AV} {s:Sto} {K:ORes->Prop},iM (some (.agg l)) s K↔aK (l.all AV.isCell) (K (.val' (.ptr s.n 0 0) (s.push (ob l)))))/\
 (∀ {v:AV} {s:Sto} {K:ORes->Prop},v.isCell=true->(iM (some v) s K↔K (.val' (.ptr s.n 0 0) (s.push (ob [v])))))/\
 (∀ {P:Program} {O:bN} {H:cJ} {b:Bool} {x y:Code} {e:Env} {Q:Ex->Env->Prop},oE P O H (.bool b) x y e Q↔(b=true->Wk P O H x e Q)/\(b=false->Wk P O H y e Q))/\
 (∀ {P:Program} {O:bN} {H:cJ} {x y:Code} {e:Env} {Q:Ex->Env->Prop},oE P O H (.bool true) x y e Q↔Wk P O H x e Q)/\
 (∀ {P:Program} {O:bN} {H:cJ} {x y:Code} {e:Env} {Q:Ex->Env->Prop},oE P O H (.bool false) x y e Q↔Wk P O H y e Q)/\
 (∀ {P:Program} {O:bN} {b:Bool} {op:Op} {ops:List Oper} {dst:Option Tmp} {rest:List Oper} {e:Env} {Q:Ex->Env->Prop},guardK P O (.bool b) true op ops dst rest e Q↔(b=true->dH P O op e (dN P O ops dst rest e Q))/\(b=false->dN P O ops dst rest e Q (.val .undef)))/\
 (∀ {P:Program} {O:bN} {b:Bool} {op:Op} {ops:List Oper} {dst:Option Tmp} {rest:List Oper} {e:Env} {Q:Ex->Env->Prop},guardK P O (.bool b) false op ops dst rest e Q↔(b=false->dH P O op e (dN P O ops dst rest e Q))/\(b=true->dN P O ops dst rest e Q (.val .undef)))/\
 (∀ {P:Program} {O:bN} {op:Op} {ops:List Oper} {dst:Option Tmp} {rest:List Oper} {e:Env} {Q:Ex->Env->Prop},guardK P O (.bool true) true op ops dst rest e Q↔dH P O op e (dN P O ops dst rest e Q))/\
 (∀ {P:Program} {O:bN} {op:Op} {ops:List Oper} {dst:Option Tmp} {rest:List Oper} {e:Env} {Q:Ex->Env->Prop},guardK P O (.bool true) false op ops dst rest e Q↔dN P O ops dst rest e Q (.val .undef))/\
 (∀ {P:Program} {O:bN} {op:Op} {ops:List Oper} {dst:Option Tmp} {rest:List Oper} {e:Env} {Q:Ex->Env->Prop},guardK P O (.bool false) true op ops dst rest e Q↔dN P O ops dst rest e Q (.val .undef))/\
 (∀ {P:Program} {O:bN} {op:Op} {ops:List Oper} {dst:Option Tmp} {rest:List Oper} {e:Env} {Q:Ex->Env->Prop},guardK P O (.bool false) false op ops dst rest e Q↔dH P O op e (dN P O ops dst rest e Q))/\
 (∀ {P:Program} {O:bN} {l:List AV} {want:Bool} {op:Op} {ops:List Oper} {dst:Option Tmp} {rest:List Oper} {e:Env} {Q:Ex->Env->Prop},guardK P O (.tuple l) want op ops dst rest e Q↔dN P O ops dst rest e Q (.val .undef))/\
 (∀ {P:Program} {O:bN} {nt:Nat} {ro:Option Nat} {fn:FuncId} {t:Tr AV} {ds:List ADef} {s:Sto} {r:ARec} {ops rest:List Oper} {Q:Ex->Env->Prop} {d:Nat} {v:AV},d<nt->(dN P O ops (some d) rest ⟨nt,ro,fn,t,ds,s,r⟩ Q (.val v)↔Wo P O ops rest ⟨nt,ro,fn,t.set d v,ds,s,r⟩ Q))/\
 (∀ {P:Program} {O:bN} {e:Env} {ops rest:List Oper} {Q:Ex->Env->Prop} {v:AV},dN P O ops none rest e Q (.val v)↔Wo P O ops rest e Q)/\
 (∀ {P:Program} {O:bN} {nt:Nat} {ro:Option Nat} {fn:FuncId} {t:Tr AV} {ds:List ADef} {s:Sto} {r:ARec} {ops rest:List Oper} {Q:Ex->Env->Prop} {d:Nat} {v:AV} {s':Sto},d<nt->(dN P O ops (some d) rest ⟨nt,ro,fn,t,ds,s,r⟩ Q (.val' v s')↔Wo P O ops rest ⟨nt,ro,fn,t.set d v,ds,s',r⟩ Q))/\
 (∀ {P:Program} {O:bN} {nt:Nat} {ro:Option Nat} {fn:FuncId} {t:Tr AV} {ds:List ADef} {s:Sto} {r:ARec} {ops rest:List Oper} {Q:Ex->Env->Prop} {v:AV} {s':Sto},dN P O ops none rest ⟨nt,ro,fn,t,ds,s,r⟩ Q (.val' v s')↔Wo P O ops rest ⟨nt,ro,fn,t,ds,s',r⟩ Q)/\
 (∀ {P:Program} {O:bN} {nt:Nat} {ro:Option Nat} {fn:FuncId} {t:Tr AV} {ds:List ADef} {s:Sto} {r:ARec} {ops rest:List Oper} {Q:Ex->Env->Prop} {dst:Option Tmp} {v:AV} {s':Sto},dN P O ops dst rest ⟨nt,ro,fn,t,ds,s,r⟩ Q (.pan v s')↔Q (.panic v) ⟨nt,ro,fn,t,ds,s',r⟩)/\
 (∀ {s:Sto} {K:ORes->Prop} {v:AV},callK s K (.ret v none)=K (.val v))/\
 (∀ {s s':Sto} {K:ORes->Prop} {v:AV},callK s K (.ret v (some s'))=K (.val' v s'))/\
 (∀ {s:Sto} {K:ORes->Prop} {v:AV},callK s K (.pan v none)=K (.pan v s))/\
 (∀ {s s':Sto} {K:ORes->Prop} {v:AV},callK s K (.pan v (some s'))=K (.pan v s'))/\
 (∀ {c:CRes} {K:CRes->Prop} {R:Prop},KO (some c) K R=K c)/\
 (∀ {P:Program} {O:bN} {g:FuncId} {first cap args:List AV} {s:Sto} {K:CRes->Prop},Wcall P O (.func (.func g) first cap) args s K↔KO (O g (first++args++cap) s) K (aNr P O (.func (.func g) first cap) args s K))/\
 (∀ {P:Program} {rs:List ResultVar} {C D:Sto->AV->Prop} {nt:Nat} {ro:Option Nat} {fn:FuncId} {t:Tr AV} {s:Sto},gQ P rs C D .ret ⟨nt,ro,fn,t,[],s,.no⟩↔sX (aP P ⟨nt,ro,fn,t,[],s,.no⟩ rs) C s)/\
 (∀ {P:Program} {rs:List ResultVar} {C D:Sto->AV->Prop} {nt:Nat} {ro:Option Nat} {fn:FuncId} {t:Tr AV} {s:Sto},gQ P rs C D .normal ⟨nt,ro,fn,t,[],s,.no⟩↔sX (aP P ⟨nt,ro,fn,t,[],s,.no⟩ rs) C s)/\
 (∀ {P:Program} {rs:List ResultVar} {C D:Sto->AV->Prop} {nt:Nat} {ro:Option Nat} {fn:FuncId} {t:Tr AV} {s:Sto} {v:AV},gQ P rs C D (.panic v) ⟨nt,ro,fn,t,[],s,.no⟩↔D s v):=
 ⟨KH,aBn,aBo,JZ,aGy,aBz,VU,OU,KN,OF,OE,JR,VH,VI,VD,VE,VF,VG,HC,aBt,VK,VL,OR,aBu,DY,BR,VV,OV,VW,gS,aBb,KA,OJ⟩
theorem aE:(∀ {P:Program} {t:TypeId} {x:Operand} {y:Operand} {k:IntKind} {a:Int} {b:Int},cX P .add t x y (.int k a) (.int k b)=some (.int k (k.wrap (a+b))))/\
 (∀ {P:Program} {t:TypeId} {x:Operand} {y:Operand} {k:IntKind} {a:Int} {b:Int},cX P .sub t x y (.int k a) (.int k b)=some (.int k (k.wrap (a-b))))/\
 (∀ {P:Program} {t:TypeId} {x:Operand} {y:Operand} {k:IntKind} {a:Int} {b:Int},cX P .mul t x y (.int k a) (.int k b)=some (.int k (k.wrap (a*b))))/\
 (∀ {P:Program} {t:TypeId} {x:Operand} {y:Operand} {k:IntKind} {a:Int} {b:Int},b≠0->cX P .quo t x y (.int k a) (.int k b)=some (.int k (k.wrap (a.tdiv b))))/\
 (∀ {P:Program} {t:TypeId} {x:Operand} {y:Operand} {k:IntKind} {a:Int} {b:Int},b≠0->cX P .rem t x y (.int k a) (.int k b)=some (.int k (a.tmod b)))/\
 (∀ {P:Program} {t:TypeId} {x:Operand} {y:Operand} {k:IntKind} {a:Int} {b:Int},cX P .eql t x y (.int k a) (.int k b)=some (.bool (decide (a=b))))/\
 (∀ {P:Program} {t:TypeId} {x:Operand} {y:Operand} {k:IntKind} {a:Int} {b:Int},cX P .neq t x y (.int k a) (.int k b)=some (.bool (!decide (a=b))))/\
 (∀ {P:Program} {t:TypeId} {x:Operand} {y:Operand} {k:IntKind} {a:Int} {b:Int},cX P .lss t x y (.int k a) (.int k b)=some (.bool (decide (a<b))))/\
 (∀ {P:Program} {t:TypeId} {x:Operand} {y:Operand} {k:IntKind} {a:Int} {b:Int},cX P .leq t x y (.int k a) (.int k b)=some (.bool (decide (a<=b))))/\
 (∀ {P:Program} {t:TypeId} {x:Operand} {y:Operand} {k:IntKind} {a:Int} {b:Int},cX P .gtr t x y (.int k a) (.int k b)=some (.bool (decide (b<a))))/\
 (∀ {P:Program} {t:TypeId} {x:Operand} {y:Operand} {k:IntKind} {a:Int} {b:Int},cX P .geq t x y (.int k a) (.int k b)=some (.bool (decide (b<=a))))/\
 (∀ {b:Bool},aun .not (.bool b)=some (.bool !b))/\
 (∀ {k:IntKind} {a:Int},aun .neg (.int k a)=some (.int k (k.wrap (0-a))))/\
 (∀ {l:List AV} {i:Nat},(Tr.leaf.lay 0 l).val i=l[i]?.getD .top)/\
 (∀ {P:Program} {e:Env} {d:Nat} {l:List ResultVar},aP P e (.tmp d::l)=(aP P e l).map (e.t.val d::·))/\
 (∀ {P:Program} {e:Env},aP P e []=some [])/\
 (∀ {v:AV},iA [v]=v)/\
 (∀ {v w:AV} {l:List AV},iA (v::w::l)=.tuple (v::w::l))/\
 (iA []=.tuple [])/\
 (∀ {a b:AV},RO (.bool true) a b=some a)/\
 (∀ {a b:AV},RO (.bool false) a b=some b)/\
 (∀ {k:IntKind} {a:Int},HZ (.int k a)=.int k a)/\
 (∀ {b:Bool},HZ (.bool b)=.bool b)/\
 (HZ (.slice none 0 0)=.nils)/\
 (∀ {b:ByteArray},HZ (.string b)=.str (b.data.toList.map (·.toNat))):=
 ⟨aBc,aBd,aBe,aBf,aBg,aBh,aBi,aBj,aBk,aBl,aBm,rfl,aGr,Tr.val_lay _ _,GS,rfl,rfl,rfl,rfl,rfl,rfl,rfl,rfl,rfl,rfl⟩
theorem aB:(∀ {p:Prop},(True->p)=p)/\(∀ {p:Prop},(False->p)=True)/\(∀ {p:Prop},(p->True)=True)/\(∀ {i:Decidable True},@decide True i=true)/\(∀ {i:Decidable False},@decide False i=false)/\
 (∀ {p:Prop},(True/\p)=p)/\(∀ {p:Prop},(p/\True)=p)/\(∀ {p:Prop},(False/\p)=False)/\(∀ {p:Prop},(p/\False)=False)/\((!true)=false)/\((!false)=true)/\
 (∀ {p:Prop} {i:Decidable p},(@decide p i=true)=p)/\(∀ {p:Prop} {i:Decidable p},(@decide p i=false)=¬p)/\(∀ {b:Bool},((!b)=true)=(b=false))/\(∀ {b:Bool},((!b)=false)=(b=true))/\((¬True)=False)/\((¬False)=True)/\
 (∀ {α:Type} {a:α} {l:List α},(a::l)[0]?=some a)/\(∀ {α:Type} {a:α} {l:List α} {n:Nat},(a::l)[n+1]?=l[n]?)/\(∀ {α:Type} {n:Nat},([]:List α)[n]?=none)/\(∀ {α:Type} {a b:α},(some a).getD b=a)/\(∀ {α:Type} {b:α},(none:Option α).getD b=b)/\(∀ {α β:Type} {f:α->β} {a:α},(some a).map f=some (f a))/\(∀ {α β:Type} {f:α->β},(none:Option α).map f=none)/\
 (∀ {α β:Type} {f:α->β} {a:α} {l:List α},(a::l).map f=f a::l.map f)/\(∀ {α β:Type} {f:α->β},([]:List α).map f=[])/\(∀ {α:Type} {a:α} {l m:List α},(a::l)++m=a::(l++m))/\(∀ {α:Type} {m:List α},[]++m=m)/\(∀ {α:Type} {m:List α},m++[]=m)/\
 (∀ {α:Type} {l:List α},l.toArray.toList=l)/\(∀ {α:Type} {p:α->Bool} {a:α} {l:List α},(a::l).all p=(p a&&l.all p))/\(∀ {α:Type} {p:α->Bool},([]:List α).all p=true)/\(∀ {b:Bool},(true&&b)=b)/\
 (∀ {α:Type} {a:α},(a=a)=True)/\(∀ {α:Type} {a b:α} {l m:List α},(a::l=b::m)=(a=b/\l=m)):=
 ⟨true_implies _,false_implies _,by simp,decide_true _,decide_false _,true_and _,and_true _,false_and _,and_false _,rfl,rfl,decide_eq_true_eq,by simp,by simp,by simp,not_true_eq_false,not_false_eq_true,
  rfl,rfl,rfl,rfl,rfl,rfl,rfl,rfl,rfl,rfl,rfl,List.append_nil _,rfl,rfl,rfl,rfl,eq_self _,by simp⟩
theorem aL:(∀ {k:IntKind} {a:Int},(AV.int k a).isCell=true)/\(∀ {b:Bool},(AV.bool b).isCell=true)/\(∀ {l:List Nat},(AV.str l).isCell=true)/\(AV.nils.isCell=true)/\(AV.nilm.isCell=true)/\(AV.nilp.isCell=true)/\(AV.nilf.isCell=true)/\(AV.nili.isCell=true)/\
 (∀ {l:List AV} {c:Bool},(AV.fz l c).isCell=true)/\(∀ {i g o n:Nat} {c:ACap},(AV.sl i g o n c).isCell=true)/\(∀ {i g o:Nat},(AV.ptr i g o).isCell=true)/\(∀ {v:AV},(AV.pf v).isCell=true)/\(∀ {i:Nat},(AV.map i).isCell=true)/\(∀ {f:Fn} {l m:List AV},(AV.func f l m).isCell=true)/\
 (∀ {cs:List AV},ob cs=aU 0 cs)/\(∀ {n low:Nat} {o:Tr AObj} {x:AObj},(Sto.mk n low o).push x=⟨n+1,low,o.set n x⟩)/\(∀ {n low:Nat} {o:Tr AObj} {i:Nat},i<n->(Sto.mk n low o).get i=o.get i)/\(∀ {n:Nat} {o:Tr AObj} {i:Nat} {x:AObj},(Sto.mk n 0 o).put i x=⟨n,0,o.set i x⟩)/\
 (∀ {g off:Nat} {cs:List AV},ldK (some none) (some (aU g cs)) g off=cs[off]?)/\(∀ {g off k:Nat} {cs:List AV},off+k<=cs.length->ldK (some (some k)) (some (aU g cs)) g off=some (.agg (aZ cs off k)))/\
 (∀ {s:Sto} {id g off:Nat} {v:AV} {cs:List AV},v.isCell=true->off<cs.length->stK s (some none) id g off v (some (aU g cs))=some (s.put id (aU g (cs.set off v))))/\
 (∀ {s:Sto} {id g off k:Nat} {vs cs:List AV},vs.length=k->vs.all AV.isCell=true->off+k<=cs.length->stK s (some (some k)) id g off (.agg vs) (some (aU g cs))=some (s.put id (aU g (dF cs off vs))))/\
 (∀ {i g o:Nat},sI (.ptr i g o)=some (.ptr i g o))/\(∀ {v:AV},sI (.pf v)=some (.pf v))/\
 (∀ {α:Type} {a b:α} {l:List α},(a::l).set 0 b=b::l)/\(∀ {α:Type} {a b:α} {l:List α} {n:Nat},(a::l).set (n+1) b=a::l.set n b)/\(∀ {α:Type} {a:α} {l:List α},(a::l).length=l.length+1)/\(∀ {α:Type},([]:List α).length=0)/\
 (∀ {l m:List AV},m.length=l.length->dF l 0 m=m)/\(∀ {f:FuncId} {g:List AV->Option AV} {L:List kL} {args:List AV} {s:Sto},orcL (ent f g::L) f args s=(g args).map fun v=>.ret v none)/\(∀ {f h:FuncId} {g:List AV->Option AV} {L:List kL} {args:List AV} {s:Sto},h≠f->orcL (ent h g::L) f args s=orcL L f args s):=
 ⟨rfl,rfl,rfl,rfl,rfl,rfl,rfl,rfl,rfl,rfl,rfl,rfl,rfl,rfl,rfl,rfl,Sto.get_mk,Sto.put_mk0,aGm,aGn,aGp,aGq,rfl,rfl,rfl,rfl,rfl,rfl,fun h=>OL h,vF,aKd⟩
end
section
theorem wdr:(∀ {P:Program} {O:bN} {qs ps:List Nat} {ops:List Oper} {e0 e:Env} {Q:Ex->Env->Prop} {i:Nat} {N:List (Nat × Nat)},Wd P O qs ps ops e0 Q [] i N e=Q .normal e)/\
 (∀ {P:Program} {O:bN} {qs ps:List Nat} {ops:List Oper} {e0 e:Env} {Q:Ex->Env->Prop} {dst:Option Tmp} {op:Op} {ty:TypeId} {pos:String} {after:Array Edge} {rest:List Oper} {i:Nat} {N:List (Nat × Nat)},
   Wd P O qs ps ops e0 Q ({dst:=dst,op:=op,type:=ty,pos:=pos,after:=after,guard:=none}::rest) i N e=sD P O (cM qs ps i op) (exY (xD ps) (keptY (rD ps i e0.s.n) (cA ops) (bif cB ps then [] else N) i)) op e (tW dst e (GP ps i op) (nD ps e0.s.n) (xD ps) (cO op) i N (Wd P O qs ps ops e0 Q rest (i+1)) (GQ ops e0 Q i)))/\
 (∀ {P:Program} {O:bN} {qs ps:List Nat} {ops:List Oper} {e0 e:Env} {Q:Ex->Env->Prop} {dst:Option Tmp} {op:Op} {ty:TypeId} {pos:String} {after:Array Edge} {j:Nat} {want:Bool} {rest:List Oper} {i:Nat} {N:List (Nat × Nat)},
   Wd P O qs ps ops e0 Q ({dst:=dst,op:=op,type:=ty,pos:=pos,after:=after,guard:=some (j,want)}::rest) i N e=fM P O (VJ e.t (CY ops j)) want (cM qs ps i op) (exY (xD ps) (keptY (rD ps i e0.s.n) (cA ops) (bif cB ps then [] else N) i)) op e (tW dst e (GP ps i op) (nD ps e0.s.n) (xD ps) (cO op) i N (Wd P O qs ps ops e0 Q rest (i+1)) (GQ ops e0 Q i)))/\
 (∀ {P:Program} {O:bN} {kd:Nat} {Y:Nat->Prop} {ty:TypeId} {a:Operand} {e:Env} {K:ORes->Prop},sD P O kd Y (.load ty a) e K=(dY Y (e.eval a)/\lV (eB P e.s ty (e.eval a)) K))/\
 (∀ {P:Program} {O:bN} {kd:Nat} {Y:Nat->Prop} {ty:TypeId} {m k:Operand} {ok:Bool} {e:Env} {K:ORes->Prop},sD P O kd Y (.lookup ty m k ok) e K=(dY Y (e.eval m)/\lV (alookup P e.s ty (e.eval m) (e.eval k) ok) K))/\
 (∀ {P:Program} {O:bN} {kd:Nat} {Y:Nat->Prop} {src dst:TypeId} {x:Operand} {e:Env} {K:ORes->Prop},sD P O kd Y (.convert src dst x) e K=(dY Y (e.eval x)/\qI (iB P e.s src dst (e.eval x)) (vK K)))/\
 (∀ {P:Program} {O:bN} {kd:Nat} {Y:Nat->Prop} {ty:TypeId} {a x:Operand} {e:Env} {K:ORes->Prop},sD P O kd Y (.store ty a x) e K=((kd=3/\gO e.s.n [e.eval a,e.eval x])/\KG (kM P e.s ty (e.eval a) (e.eval x)) (cK e.s.n K)))/\
 (∀ {P:Program} {O:bN} {kd:Nat} {Y:Nat->Prop} {ty:TypeId} {m k x:Operand} {e:Env} {K:ORes->Prop},sD P O kd Y (.mapUpdate ty m k x) e K=((kd=3/\gO e.s.n [e.eval m,e.eval k,e.eval x])/\KG (dO P e.s ty (e.eval m) (e.eval k) (e.eval x)) (cK e.s.n K)))/\
 (∀ {P:Program} {O:bN} {kd:Nat} {Y:Nat->Prop} {ty:TypeId} {e:Env} {K:ORes->Prop},sD P O kd Y (.alloc ty) e K=iM (aX P ty) e.s K)/\
 (∀ {P:Program} {O:bN} {kd:Nat} {Y:Nat->Prop} {ty:TypeId} {x:Operand} {e:Env} {K:ORes->Prop},sD P O kd Y (.box ty x) e K=(gO e.s.n [e.eval x]/\vI (e.eval x) e.s K))/\
 (∀ {P:Program} {O:bN} {kd:Nat} {Y:Nat->Prop} {ty:TypeId} {len:Nat} {parts:Array (Nat × Operand)} {e:Env} {K:ORes->Prop},sD P O kd Y (.buildSlice ty len parts) e K=(gO e.s.n (parts.toList.map fun p=>e.eval p.2)/\dH P O (.buildSlice ty len parts) e K))/\
 (∀ {P:Program} {O:bN} {kd:Nat} {Y:Nat->Prop} {ty:TypeId} {l c:Operand} {e:Env} {K:ORes->Prop},sD P O kd Y (.makeSlice ty l c) e K=(gO e.s.n [e.eval l,e.eval c]/\dH P O (.makeSlice ty l c) e K))/\
 (∀ {P:Program} {O:bN} {kd:Nat} {Y:Nat->Prop} {f:Operand} {args:Array Operand} {ts:Array TypeId} {e:Env} {K:ORes->Prop},sD P O kd Y (.call {callee:=.value f,args:=args,argTypes:=ts}) e K=tE P O kd (e.eval f) (args.toList.map e.eval) e.s K)/\
 (∀ {P:Program} {O:bN} {kd:Nat} {Y:Nat->Prop} {args:Array Operand} {ts:Array TypeId} {e:Env} {K:ORes->Prop},sD P O kd Y (.call {callee:=.builtin .len,args:=args,argTypes:=ts}) e K=(BK Y (args.toList.map e.eval)/\qI (aV P e.s .len ts (args.toList.map e.eval)) (vK K)))/\
 (∀ {P:Program} {O:bN} {kd:Nat} {Y:Nat->Prop} {args:Array Operand} {ts:Array TypeId} {e:Env} {K:ORes->Prop},sD P O kd Y (.call {callee:=.builtin .min,args:=args,argTypes:=ts}) e K=qI (aV P e.s .min ts (args.toList.map e.eval)) (vK K))/\
 (∀ {P:Program} {O:bN} {kd:Nat} {Y:Nat->Prop} {args:Array Operand} {ts:Array TypeId} {e:Env} {K:ORes->Prop},sD P O kd Y (.call {callee:=.builtin .max,args:=args,argTypes:=ts}) e K=qI (aV P e.s .max ts (args.toList.map e.eval)) (vK K))/\
 (∀ {P:Program} {O:bN} {kd:Nat} {Y:Nat->Prop} {args:Array Operand} {ts:Array TypeId} {e:Env} {K:ORes->Prop},sD P O kd Y (.call {callee:=.builtin .append,args:=args,argTypes:=ts}) e K=((kd=3/\gO e.s.n (args.toList.map e.eval))/\qI (aV P e.s .append ts (args.toList.map e.eval)) (cF (fun s'=>aV P s' .append ts (args.toList.map e.eval)) Y e.s K)))/\
 (∀ {P:Program} {O:bN} {kd:Nat} {Y:Nat->Prop} {args:Array Operand} {ts:Array TypeId} {e:Env} {K:ORes->Prop},sD P O kd Y (.call {callee:=.builtin .copy,args:=args,argTypes:=ts}) e K=((kd=3/\gO e.s.n (args.toList.map e.eval))/\qI (aV P e.s .copy ts (args.toList.map e.eval)) (cF (fun s'=>aV P s' .copy ts (args.toList.map e.eval)) Y e.s K)))/\
 (∀ {P:Program} {O:bN} {kd:Nat} {Y:Nat->Prop} {op:Op} {e:Env} {K:ORes->Prop},eU op=true->sD P O kd Y op e K=dH P O op e K):=
 ⟨rfl,rfl,rfl,rfl,rfl,rfl,rfl,rfl,rfl,rfl,rfl,rfl,rfl,rfl,rfl,rfl,rfl,rfl,fun {_ _ _ _ op _ _} h=>by cases op<;>first | exact propext ⟨fun x=>x.2,fun x=>⟨rfl,x⟩⟩ | (exact Bool.noConfusion h)⟩
theorem aNj:(∀ {F:Sto->Option ORes} {Y:Nat->Prop} {s:Sto} {K:ORes->Prop} {v:AV},cF F Y s K (.val v)=((∀ s',(∀ id,Y id->s'.get id=s.get id)->F s'=some (.val v))/\K (.val v)))/\(∀ {F:Sto->Option ORes} {Y:Nat->Prop} {s s':Sto} {K:ORes->Prop} {v:AV},cF F Y s K (.val' v s')=(s.n<=s'.n/\K (.val' v s')))/\(∀ {F:Sto->Option ORes} {Y:Nat->Prop} {s s':Sto} {K:ORes->Prop} {v:AV},cF F Y s K (.pan v s')=(s.n<=s'.n/\K (.pan v s')))/\(∀ {n:Nat} {K:ORes->Prop} {v:AV} {s:Sto},cK n K (.val' v s)=(n<=s.n/\K (.val' v s)))/\(∀ {n:Nat} {K:ORes->Prop} {v:AV} {s:Sto},cK n K (.pan v s)=(n<=s.n/\K (.pan v s)))/\(∀ {K:ORes->Prop} {v:AV},vK K (.val v)=K (.val v))/\
 (∀ {nt:Nat} {ro:Option Nat} {fn:FuncId} {t:Tr AV} {ds:List ADef} {s:Sto} {r:ARec} {md:Bool} {n0:Nat} {X:Nat->Prop} {nw:Bool} {i:Nat} {N:List (Nat × Nat)} {next:List (Nat × Nat)->Env->Prop} {pn:AV->Sto->Prop} {d:Nat} {v:AV},d<nt->tW (some d) ⟨nt,ro,fn,t,ds,s,r⟩ md n0 X nw i N next pn (.val v)=next N ⟨nt,ro,fn,t.set d v,ds,s,r⟩)/\
 (∀ {e:Env} {md:Bool} {n0:Nat} {X:Nat->Prop} {nw:Bool} {i:Nat} {N:List (Nat × Nat)} {next:List (Nat × Nat)->Env->Prop} {pn:AV->Sto->Prop} {v:AV},tW none e md n0 X nw i N next pn (.val v)=next N e)/\
 (∀ {nt:Nat} {ro:Option Nat} {fn:FuncId} {t:Tr AV} {ds:List ADef} {s s':Sto} {r:ARec} {md:Bool} {n0:Nat} {X:Nat->Prop} {nw:Bool} {i:Nat} {N:List (Nat × Nat)} {next:List (Nat × Nat)->Env->Prop} {pn:AV->Sto->Prop} {d:Nat} {v:AV},d<nt->tW (some d) ⟨nt,ro,fn,t,ds,s,r⟩ md n0 X nw i N next pn (.val' v s')=((md=true->pD X n0 s s')/\next (bif nw then (i,s.n)::N else N) ⟨nt,ro,fn,t.set d v,ds,s',r⟩))/\
 (∀ {nt:Nat} {ro:Option Nat} {fn:FuncId} {t:Tr AV} {ds:List ADef} {s s':Sto} {r:ARec} {md:Bool} {n0:Nat} {X:Nat->Prop} {nw:Bool} {i:Nat} {N:List (Nat × Nat)} {next:List (Nat × Nat)->Env->Prop} {pn:AV->Sto->Prop} {v:AV},tW none ⟨nt,ro,fn,t,ds,s,r⟩ md n0 X nw i N next pn (.val' v s')=((md=true->pD X n0 s s')/\next (bif nw then (i,s.n)::N else N) ⟨nt,ro,fn,t,ds,s',r⟩))/\
 (∀ {dst:Option Tmp} {e:Env} {md:Bool} {n0:Nat} {X:Nat->Prop} {nw:Bool} {i:Nat} {N:List (Nat × Nat)} {next:List (Nat × Nat)->Env->Prop} {pn:AV->Sto->Prop} {v:AV} {s':Sto},tW dst e md n0 X nw i N next pn (.pan v s')=((md=true->pD X n0 e.s s')/\pn v s'))/\
 (∀ {ops:List Oper} {e0:Env} {Q:Ex->Env->Prop} {i:Nat} {v:AV} {s:Sto},GQ ops e0 Q i v s=(iT (cA ops) i ops 0=true/\Q (.panic v) (eW {e0 with s:=s} ops)))/\
 (∀ {P:Program} {O:bN} {kd l:Nat} {first cap args:List AV} {s:Sto} {K:ORes->Prop},tE P O kd (.func (.yield l) first cap) args s K=((kd=3/\gO s.n (.func (.yield l) first cap::args))/\Wcall P O (.func (.yield l) first cap) args s (yK s.n K)))/\
 (∀ {P:Program} {O:bN} {kd:Nat} {g:FuncId} {first cap args:List AV} {s:Sto} {K:ORes->Prop},tE P O kd (.func (.func g) first cap) args s K=CU (O g (first++args++cap)) (O g (first++args++cap) s) (kd=3/\gO s.n (.func (.func g) first cap::args)) s K)/\
 (∀ {F:Sto->Option CRes} {t:Prop} {s:Sto} {K:ORes->Prop} {v:AV},CU F (some (.ret v none)) t s K=((∀ s',F s'=some (.ret v none))/\K (.val v)))/\
 (∀ {F:Sto->Option CRes} {t:Prop} {s s':Sto} {K:ORes->Prop} {v:AV},CU F (some (.ret v (some s'))) t s K=(t/\s.n<=s'.n/\K (.val' v s')))/\
 (∀ {F:Sto->Option CRes} {t:Prop} {s:Sto} {K:ORes->Prop} {v:AV},CU F (some (.pan v none)) t s K=(t/\K (.pan v s)))/\
 (∀ {F:Sto->Option CRes} {t:Prop} {s s':Sto} {K:ORes->Prop} {v:AV},CU F (some (.pan v (some s'))) t s K=(t/\s.n<=s'.n/\K (.pan v s')))/\
 (∀ {P:Program} {O:bN} {kd:Nat} {Y:Nat->Prop} {op:Op} {e:Env} {K:ORes->Prop} {b:Bool},fM P O (.bool b) true kd Y op e K=((b=true->sD P O kd Y op e K)/\(b=false->K (.val .undef))))/\(∀ {P:Program} {O:bN} {kd:Nat} {Y:Nat->Prop} {op:Op} {e:Env} {K:ORes->Prop} {b:Bool},fM P O (.bool b) false kd Y op e K=((b=false->sD P O kd Y op e K)/\(b=true->K (.val .undef))))/\
 (∀ {P:Program} {O:bN} {kd:Nat} {Y:Nat->Prop} {op:Op} {e:Env} {K:ORes->Prop},fM P O (.bool true) true kd Y op e K=sD P O kd Y op e K)/\(∀ {P:Program} {O:bN} {kd:Nat} {Y:Nat->Prop} {op:Op} {e:Env} {K:ORes->Prop},fM P O (.bool false) false kd Y op e K=sD P O kd Y op e K)/\
 (∀ {P:Program} {O:bN} {kd:Nat} {Y:Nat->Prop} {op:Op} {e:Env} {K:ORes->Prop},fM P O (.bool true) false kd Y op e K=K (.val .undef))/\(∀ {P:Program} {O:bN} {kd:Nat} {Y:Nat->Prop} {op:Op} {e:Env} {K:ORes->Prop},fM P O (.bool false) true kd Y op e K=K (.val .undef))/\
 (∀ {P:Program} {O:bN} {kd:Nat} {Y:Nat->Prop} {op:Op} {e:Env} {K:ORes->Prop} {l:List AV} {w:Bool},fM P O (.tuple l) w kd Y op e K=K (.val .undef))/\
 (∀ {n:Nat->Prop} {id g o:Nat},dY n (.ptr id g o)=n id)/\(∀ {n:Nat->Prop} {id:Nat},dY n (.map id)=n id)/\(∀ {n:Nat->Prop} {id g o l:Nat} {c:ACap},dY n (.sl id g o l c)=n id)/\(∀ {n:Nat->Prop} {v:AV},dY n (.pf v)=True)/\(∀ {n:Nat->Prop} {l:List AV} {c:Bool},dY n (.fz l c)=True)/\(∀ {n:Nat->Prop} {k:IntKind} {x:Int},dY n (.int k x)=True)/\(∀ {n:Nat->Prop} {l:List Nat},dY n (.str l)=True)/\(∀ {n:Nat->Prop},dY n .nils=True)/\(∀ {n:Nat->Prop},dY n .nilm=True)/\(∀ {n:Nat->Prop} {l:List AV},dY n (.agg l)=True)/\
 (∀ {n:Nat->Prop},BK n []=True)/\(∀ {n:Nat->Prop} {v:AV} {l:List AV},BK n (v::l)=(dY n v/\BK n l))/\(∀ {n:Nat},gO n []=True)/\(∀ {n:Nat} {v:AV} {l:List AV},gO n (v::l)=(UnderE n v/\gO n l))/\
 (∀ {n:Nat} {k:IntKind} {x:Int},UnderE n (.int k x)=True)/\(∀ {n:Nat} {b:Bool},UnderE n (.bool b)=True)/\(∀ {n:Nat} {l:List Nat},UnderE n (.str l)=True)/\(∀ {n:Nat},UnderE n .nils=True)/\(∀ {n:Nat},UnderE n .nilp=True)/\(∀ {n:Nat},UnderE n .nilm=True)/\(∀ {n:Nat},UnderE n .nilf=True)/\(∀ {n:Nat},UnderE n .nili=True)/\
 (∀ {n id g o:Nat},UnderE n (.ptr id g o)=(id<n))/\(∀ {n id:Nat},UnderE n (.map id)=(id<n))/\(∀ {n id g o l:Nat} {c:ACap},UnderE n (.sl id g o l c)=(id<n))/\(∀ {n:Nat} {l:List AV},UnderE n (.agg l)=gO n l)/\(∀ {n:Nat} {l:List AV},UnderE n (.tuple l)=gO n l)/\(∀ {n:Nat} {f:FuncId} {a c:List AV},UnderE n (.func (.func f) a c)=(gO n a/\gO n c))/\(∀ {n:Nat} {v:AV} {t:TypeId},UnderE n (.iface t v)=UnderE n v)/\(∀ {n:Nat} {v:AV},UnderE n (.pf v)=UnderE n v)/\(∀ {p:Prop},(Sto->p)=p)/\
 (∀ {i:Nat} {op:Op},GP [] i op=false)/\(∀ {i j:Nat} {op:Op},GP (aN j).2 i op=false)/\(∀ {i:Nat} {op:Op},GP [1000,0,1000000] i op=(decide (i<1000000)||cO op))/\(∀ {i k t:Nat} {l:List Nat} {op:Op},GP (1000::k::t::l) i op=(decide (i<t)||cO op))/\(∀ {i:Nat} {l:List Nat} {op:Op},cB l=false->GP l i op=false)/\(∀ {i:Nat} {op:Op},i<1000000->GP [1000] i op=true)/\(∀ {b:Bool},(true||b)=true)/\(∀ {b:Bool},(false||b)=b)/\(∀ {n:Nat},nD [] n=n)/\(∀ {i n:Nat},nD (aN i).2 n=n)/\(∀ {n:Nat},nD [1000] n=n)/\(∀ {n k:Nat} {l:List Nat},nD (1000::k::l) n=qH n (k-2000))/\(∀ {n:Nat} {l:List Nat},cB l=false->nD l n=n)/\(∀ {i n:Nat},rD [] i n=n)/\(∀ {j i n:Nat},rD (aN j).2 i n=n)/\(∀ {i n:Nat},rD [1000] i n=n)/\(∀ {i n k t:Nat},rD [1000,k,t] i n=qH n (k-2000))/\(∀ {i n k t a:Nat} {l:List Nat},i∈a::l->rD (1000::k::t::a::l) i n=n)/\(∀ {i n k t a:Nat} {l:List Nat},¬ i∈a::l->rD (1000::k::t::a::l) i n=qH n (k-2000))/\(∀ {i n:Nat} {l:List Nat},cB l=false->rD l i n=n)/\(∀ {a b c:Nat},(c<qH a b)=(c<a/\c<b))/\(∀ {a b c:Nat},(qH a b<=c)=(a<=c∨b<=c))/\(cB []=false)/\(∀ {i:Nat},cB (aN i).2=false)/\(∀ {n:Nat},(n<=n)=True)/\(∀ {l:List Nat},cB (1000::l)=true)/\(∀ {n n0 low low':Nat} {o:Tr AObj} {x:AObj},n0<=n->lT n0 ⟨n,low,o⟩ ⟨n+1,low',o.set n x⟩=True)/\(∀ {n n0 low low' k:Nat} {o:Tr AObj} {x:AObj},n0<=k->lT n0 ⟨n,low,o⟩ ⟨n,low',o.set k x⟩=True)/\
 (∀ {n0 i id:Nat} {l:List Nat},keptY n0 l [] i id=(id<n0))/\(∀ {n0 i id k j:Nat} {l:List Nat} {N:List (Nat × Nat)},keptY n0 l ((k,j)::N) i id=((j=id/\(l.getD i 0).testBit k=true)∨keptY n0 l N i id))/\
 (∀ {t:TypeId},cO (.alloc t)=true)/\(∀ {t:TypeId} {x:Operand},cO (.box t x)=true)/\(∀ {t:TypeId} {n:Nat} {ps:Array (Nat × Operand)},cO (.buildSlice t n ps)=true)/\(∀ {t:TypeId} {x y:Operand},cO (.makeSlice t x y)=true)/\(∀ {t:TypeId} {x:Option Operand},cO (.makeMap t x)=true)/\
 (∀ {t:TypeId} {x y:Operand},cO (.store t x y)=false)/\(∀ {t:TypeId} {x y z:Operand},cO (.mapUpdate t x y z)=false)/\(∀ {c:Call},cO (.call c)=false)/\(∀ {a b:List (Nat × Nat)},(bif true then a else b)=a)/\(∀ {a b:List (Nat × Nat)},(bif false then a else b)=b)/\
 (∀ {p:Prop},(True∨p)=True)/\(∀ {p:Prop},(p∨True)=True)/\(∀ {p:Prop},(False∨p)=p)/\(∀ {p:Prop},(p∨False)=p)/\
 (xD []=noX)/\(∀ {i:Nat},xD (aN i).2=noX)/\(∀ {l:List Nat},xD (1000::l)=noX)/\(∀ {l:List Nat},cB l=false->xD l=noX)/\(∀ {Y:Nat->Prop},exY noX Y=Y)/\(∀ {n0:Nat} {s s':Sto},pD noX n0 s s'=lT n0 s s')/\(∀ {X Y:Nat->Prop} {id:Nat},exY X Y id=(Y id/\¬ X id))/\
 (∀ {l:List Nat},cB (1001::l)=true)/\(∀ {l:List Nat} {i:Nat} {op:Op},i<1000000->GP (1001::l) i op=true)/\(∀ {k n:Nat} {l:List Nat},nD (1001::k::l) n=qH n (k-2000))/\(∀ {k i n:Nat} {l:List Nat},rD (1001::k::l) i n=qH n (k-2000))/\(∀ {k x y id:Nat} {l:List Nat},xD (1001::k::x::y::l) id=(x<=id+2000/\id+2000<y)):=by
 have hU:∀ {n:Nat} {v:AV},v.under n 1=true->UnderE n v=True:=fun h=>propext ⟨fun _=>trivial,fun _=>⟨1,h⟩⟩
 have hI:∀ {n id:Nat} {v:AV},(∀ d,v.under n (d+1)=Nat.blt id n)->UnderE n v=(id<n):=fun {n id v} h=>propext ⟨fun ⟨d,hd⟩=>by
  cases d with
  | zero=>simp [AV.under]at hd
  | succ d=>rw [h d]at hd;simpa using hd,fun hd=>⟨1,by rw [h 0];simpa using hd⟩⟩
 refine ⟨rfl,rfl,rfl,rfl,rfl,rfl,fun h=>propext (vG h),propext vH,fun h=>propext (and_congr_right fun _=>vG h),propext (and_congr_right fun _=>vH),rfl,rfl,rfl,rfl,rfl,rfl,rfl,rfl,rfl,rfl,by simp [fM],by simp [fM],by simp [fM],by simp [fM],rfl,
  rfl,rfl,rfl,rfl,rfl,rfl,rfl,rfl,rfl,rfl,rfl,rfl,rfl,rfl,hU rfl,hU rfl,hU rfl,hU rfl,hU rfl,hU rfl,hU rfl,hU rfl,hI fun _=>rfl,hI fun _=>rfl,hI fun _=>rfl,?_,?_,?_,?_,?_,?_,rfl,rfl,rfl,rfl,fun h=>by rw [GP,h];rfl,fun {i op} h=>by simp [GP,cB,tD,h],rfl,rfl,rfl,rfl,rfl,rfl,fun h=>aIg h,rfl,rfl,rfl,rfl,fun {i n k t a l} h=>by have:vB (1000::k::t::a::l) i=true:=List.elem_eq_true_of_mem h;rw [rD,this];rfl,fun {i n k t a l} h=>by have:vB (1000::k::t::a::l) i=false:=(Bool.eq_false_iff.2 fun he=>h (List.mem_of_elem_eq_true he));rw [rD,this];rfl,fun h=>aNl h,propext Nat.lt_min,fun {a b c}=>propext ⟨fun h=>by have h':min a b<=c:=h;omega,fun h=>h.elim (Nat.le_trans (Nat.min_le_left _ _)) (Nat.le_trans (Nat.min_le_right _ _))⟩,rfl,rfl,by simp,rfl,?_,?_,?_,?_,rfl,rfl,rfl,rfl,rfl,rfl,rfl,rfl,rfl,rfl,true_or _,or_true _,false_or _,or_false _,rfl,rfl,rfl,aNm,aKa,UY,rfl,rfl,fun h=>by simp [GP,cB,tD,h],rfl,rfl,rfl⟩
 ·intro n l
  refine propext ⟨fun ⟨d,hd⟩=>gD.2 fun x hx=>?_,fun h=>eM (gD.1 h)⟩
  cases d with
  | zero=>simp [AV.under]at hd
  | succ d=>exact ⟨d,List.all_eq_true.1 hd x hx⟩
 ·intro n l
  refine propext ⟨fun ⟨d,hd⟩=>gD.2 fun x hx=>?_,fun h=>GO (gD.1 h)⟩
  cases d with
  | zero=>simp [AV.under]at hd
  | succ d=>exact ⟨d,List.all_eq_true.1 hd x hx⟩
 ·intro n f a c
  refine propext ⟨fun ⟨d,hd⟩=>?_,fun h=>hG (gD.1 h.1) (gD.1 h.2)⟩
  cases d with
  | zero=>simp [AV.under]at hd
  | succ d=>
    simp only [AV.under,Bool.and_eq_true]at hd
    exact ⟨gD.2 fun x hx=>⟨d,List.all_eq_true.1 hd.1.2 x hx⟩,gD.2 fun x hx=>⟨d,List.all_eq_true.1 hd.2 x hx⟩⟩
 ·intro n v t
  refine propext ⟨fun ⟨d,hd⟩=>?_,kX⟩
  cases d with
  | zero=>simp [AV.under]at hd
  | succ d=>exact ⟨d,hd⟩
 ·intro n v
  refine propext ⟨fun ⟨d,hd⟩=>?_,jF⟩
  cases d with
  | zero=>simp [AV.under]at hd
  | succ d=>exact ⟨d,hd⟩
 ·intro p;exact propext ⟨fun h=>h .empty,fun h _=>h⟩
 ·intro n n0 low low' o x h
  refine propext ⟨fun _=>trivial,fun _ id hid=>?_⟩
  rw [Sto.get_mk (show id<n+1 by omega),Sto.get_mk (show id<n by omega),Tr.get_set_ne _ _ (by omega)]
 ·intro n n0 low low' k o x h
  refine propext ⟨fun _=>trivial,fun _ id hid=>?_⟩
  unfold Sto.get
  simp only
  rw [Tr.get_set_ne _ _ (show id≠k by omega)]
 ·intro n0 i id l;simp [keptY]
 ·intro n0 i id k j l N
  refine propext ⟨?_,?_⟩
  ·rintro (h | ⟨k',h,h'⟩)
   ·exact .inr (.inl h)
   ·rcases List.mem_cons.1 h with e | h
    ·cases e;exact .inl ⟨rfl,h'⟩
    ·exact .inr (.inr ⟨k',h,h'⟩)
  ·rintro (⟨rfl,h⟩ | h | ⟨k',h,h'⟩)
   ·exact .inr ⟨k,List.mem_cons_self ..,h⟩
   ·exact .inl h
   ·exact .inr ⟨k',List.mem_cons_of_mem _ h,h'⟩
end
end
end Go.Abs
