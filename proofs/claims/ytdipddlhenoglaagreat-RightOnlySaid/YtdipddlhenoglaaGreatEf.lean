/-
  The abstract machine: the walk.
-/
import Derived.Test.YtdipddlhenoglaaGreatEe
set_option linter.unusedVariables false
set_option linter.unusedSimpArgs false
namespace Go.Abs
noncomputable section
abbrev cQ:=Nat->List Nat × List Nat
def aL:cQ:=fun _=>([],[])
def Wk (P:Program) (O:bP):cQ->Code->Env->(Ex->Env->Prop)->Prop
 | _,.skip,e,Q=>Q .normal e
 | _,.label _,e,Q=>Q .normal e
 | H,.region i ops d,e,Q=>match d with
   | false=>Wo P O ops.toList ops.toList e Q
   | true=>P.follows .mixedOrders=true/\sOk (H i).1 (H i).2 ops.toList=true/\Wd P O (H i).1 (H i).2 ops.toList e Q ops.toList 0 [] e
 | H,.seq a b,e,Q=>Wk P O H a e fun ex e'=>match ex with
   | .normal=>Wk P O H b e' Q
   | ex=>Q ex e'
 | H,.cond c x y,e,Q=>(e.eval c=.bool true/\Wk P O H x e Q)∨(e.eval c=.bool false/\Wk P O H y e Q)
 | H,.block id c,e,Q=>Wk P O H c e (fH id Q)
 | _,.loop c,e,Q=>∃ (α:Type) (I:α->Env->Prop) (m:α->Nat) (a:α),I a e/\∀ a e,I a e->∃ H:cQ,Wk P O H c e fun ex e'=>match ex with
   | .normal=>∃ h,m h<m a/\I h e'
   | ex=>Q ex e'
 | H,.scope c,e,Q=>Wk P O H c e Q
 | _,.exit id,e,Q=>Q (.exit id) e
 | _,.ret,e,Q=>Q .ret e
 | _,.rangeFunc f ps a b,e,Q=>W P O (.rangeFunc f ps a b) e Q
 | _,_,_,_=>False
section
variable {P:Program} {O:bP} {H:cQ}
theorem Wk.sound:∀ {c:Code} {H:cQ} {e:Env} {Q:Ex->Env->Prop},Wk P O H c e Q->W P O c e Q:=by
 intro c
 induction c with
 | skip=>intro H e Q h;exact aRj.2 h
 | label l=>intro H e Q h;exact aNq.2 h
 | region i ops k=>
   intro H e Q h
   cases k with
   | false=>have:=aIu (P:=P) (O:=O) (i:=i) (l:=ops.toList) (e:=e) (Q:=Q);simp only [Array.toArray_toList]at this;exact this.2 h
   | true=>obtain ⟨o,p,B⟩:=h;have:=aRe (P:=P) (O:=O) _ _ (i:=i) o p B;simpa only [Array.toArray_toList] using this
 | seq a b d r=>
   intro H e Q h;refine aVa.2 ((d h).mono fun ex e' w=>?_)
   cases ex with
   | normal=>exact r w
   | _=>exact w
 | cond q x y u v=>
   intro H e Q h;refine aRi.2 ?_
   rcases h with ⟨o,p⟩ | ⟨o,p⟩
   ·exact .inl ⟨o,u p⟩
   ·exact .inr ⟨o,v p⟩
 | block id a d=>intro H e Q h;exact aNp.2 (d h)
 | loop a d=>
   intro H e Q h;obtain ⟨α,I,m,x,A,D⟩:=h
   exact aRl I m x A fun a e C=>d (D a e C).choose_spec
 | scope a d=>intro H e Q h;exact aNr.2 (d h)
 | exit id=>intro H e Q h;exact aRk.2 h
 | ret=>intro H e Q h;exact aVb.2 h
 | rangeFunc f ps a b=>intro H e Q h;exact h
 | _=>intro H e Q h;exact h.elim
def UI (P:Program) (O:bP) (H:cQ) (b:Code) (Q:Ex->Env->Prop):Ex->Env->Prop:=fun ex e=>match ex with
 | .normal=>Wk P O H b e Q
 | ex=>Q ex e
def pS (P:Program) (O:bP) (H:cQ) (v:AV) (x y:Code) (e:Env) (Q:Ex->Env->Prop):Prop:=(v=.bool true/\Wk P O H x e Q)∨(v=.bool false/\Wk P O H y e Q)
@[congr] theorem aUr {c:Code} {e e':Env} {Q:Ex->Env->Prop} (h:e=e'):Wk P O H c e Q=Wk P O H c e' Q:=by rw [h]
@[congr] theorem aRa {b:Code} {Q:Ex->Env->Prop} {x x':Ex} {e:Env} (h:x=x'):UI P O H b Q x e=UI P O H b Q x' e:=by rw [h]
@[congr] theorem aOr {v v':AV} {x y:Code} {e:Env} {Q:Ex->Env->Prop} (h:v=v'):pS P O H v x y e Q=pS P O H v' x y e Q:=by rw [h]
@[congr] theorem aUs {qs ps:List Nat} {ops rest:List Oper} {e0 e e':Env} {Q:Ex->Env->Prop} {i i':Nat} {N N':List (Nat × Nat)} (h:e=e') (h':i=i') (h'':N=N'):Wd P O qs ps ops e0 Q rest i N e=Wd P O qs ps ops e0 Q rest i' N' e':=by rw [h,h',h'']
@[congr] theorem aRb {dst:Option Tmp} {e:Env} {md:Bool} {n0:Nat} {X:Nat->Prop} {nw:Bool} {i:Nat} {N:List (Nat × Nat)} {next:List (Nat × Nat)->Env->Prop} {pn:AV->Sto->Prop} {r r':ORes} (h:r=r'):wZ dst e md n0 X nw i N next pn r=wZ dst e md n0 X nw i N next pn r':=by rw [h]
@[congr] theorem aUt {kd kd':Nat} {Y:Nat->Prop} {op:Op} {e:Env} {K:ORes->Prop} (h:kd=kd'):sD P O kd Y op e K=sD P O kd' Y op e K:=by rw [h]
@[congr] theorem aNb {v v':AV} {w:Bool} {kd:Nat} {Y:Nat->Prop} {op:Op} {e:Env} {K:ORes->Prop} (h:v=v'):gF P O v w kd Y op e K=gF P O v' w kd Y op e K:=by rw [h]
@[congr] theorem aOs {kd:Nat} {fv fv':AV} {args args':List AV} {s s':Sto} {K:ORes->Prop} (h:fv=fv') (h':args=args') (h'':s=s'):vW P O kd fv args s K=vW P O kd fv' args' s' K:=by rw [h,h',h'']
@[congr] theorem aRc {F F':Sto->Option CRes} {r r':Option CRes} {t t':Prop} {s:Sto} {K:ORes->Prop} (h:F=F') (h':r=r') (h'':t=t'):GU F r t s K=GU F' r' t' s K:=by rw [h,h',h'']
theorem UJ {x y:Code} {e:Env} {Q:Ex->Env->Prop}:pS P O H (.bool true) x y e Q↔Wk P O H x e Q:=by simp [pS]
theorem PK {x y:Code} {e:Env} {Q:Ex->Env->Prop}:pS P O H (.bool false) x y e Q↔Wk P O H y e Q:=by simp [pS]
theorem UK {b:Bool} {x y:Code} {e:Env} {Q:Ex->Env->Prop}:pS P O H (.bool b) x y e Q↔(b=true->Wk P O H x e Q)/\(b=false->Wk P O H y e Q):=by cases b<;>simp [pS]
theorem aNc {c:Operand} {x y:Code} {e:Env} {Q:Ex->Env->Prop}:Wk P O H (.cond c x y) e Q↔pS P O H (e.eval c) x y e Q:=.rfl
theorem aBo {i:Nat} {l:List Oper} {e:Env} {Q:Ex->Env->Prop}:Wk P O H (.region i l.toArray false) e Q↔Wo P O l l e Q:=.rfl
theorem aNd {i:Nat} {l:List Oper} {e:Env} {Q:Ex->Env->Prop}:Wk P O H (.region i l.toArray true) e Q↔P.follows .mixedOrders=true/\sOk (H i).1 (H i).2 l=true/\Wd P O (H i).1 (H i).2 l e Q l 0 [] e:=.rfl
def FF {α:Type} (I:α->Env->Prop) (m:α->Nat) (a:α) (Q:Ex->Env->Prop):Ex->Env->Prop:=fun ex e=>match ex with
 | .normal=>∃ b,m b<m a/\I b e
 | ex=>Q ex e
theorem aM {α:Type} (I:α->Env->Prop) (m:α->Nat) (a:α) {c:Code} {e:Env} {Q:Ex->Env->Prop} (b:I a e)
 (d:∀ a e,I a e->Wk P O H c e (FF I m a Q)):Wk P O H (.loop c) e Q:=⟨α,I,m,a,b,fun a e h=>⟨H,d a e h⟩⟩
theorem aOt:(∀ {α:Type} {I:α->Env->Prop} {m:α->Nat} {a:α} {Q:Ex->Env->Prop} {i:Nat} {e:Env},FF I m a Q (.exit i) e=Q (.exit i) e)/\(∀ {α:Type} {I:α->Env->Prop} {m:α->Nat} {a:α} {Q:Ex->Env->Prop} {e:Env},FF I m a Q .ret e=Q .ret e)/\
 (∀ {α:Type} {I:α->Env->Prop} {m:α->Nat} {a:α} {Q:Ex->Env->Prop} {v:AV} {e:Env},FF I m a Q (.panic v) e=Q (.panic v) e):=⟨rfl,rfl,rfl⟩
@[congr] theorem aOu {α:Type} {I:α->Env->Prop} {m:α->Nat} {a:α} {Q:Ex->Env->Prop} {x x':Ex} {e:Env} (h:x=x'):FF I m a Q x e=FF I m a Q x' e:=by rw [h]
theorem aF {L:List mE} (d:∀ x∈L,bY P x) (H:cQ) {f:FuncId} {fn:Func} {c:Code} {N:Nat} {b:List ResultVar} {args:List AV} {v:AV} (a:okFn P f=true) (l:P.funcs[f]?=some fn) (m:fn.ntmps=N) (o:fn.results=b.toArray) (k:fn.body=some c)
 (e:Nat.ble args.length N=true) (p:∀ x∈args,Und 0 x) (q:Und 0 v)
 (h:Wk P (orcL L) H c ⟨N,none,f,Tr.leaf.lay 0 args,[],⟨0,0,.leaf⟩,.no⟩ (iR P b (fun _ r=>r=v) fun _ _=>False)):Returns P f args v:=MB d a l m o k e p q h.sound
theorem bM {L:List mE} (d:∀ x∈L,bY P x) (H:cQ) {f:FuncId} {fn:Func} {c:Code} {N:Nat} {b:List ResultVar} {args:List AV} {v:AV} (a:okFn P f=true) (l:P.funcs[f]?=some fn) (m:fn.ntmps=N) (o:fn.results=b.toArray) (k:fn.body=some c)
 (e:Nat.ble args.length N=true) (p:∀ x∈args,Und 0 x)
 (h:Wk P (orcL L) H c ⟨N,none,f,Tr.leaf.lay 0 args,[],⟨0,0,.leaf⟩,.no⟩ (iR P b (fun S r=>Frz S 0 r v) fun _ _=>False)):Returns P f args v:=GV d a l m o k e p h.sound
end
section
theorem aUu:(∀ {P:Program} {O:bP} {H:cQ} {a b:Code} {e:Env} {Q:Ex->Env->Prop},Wk P O H (.seq a b) e Q↔Wk P O H a e (UI P O H b Q))/\
 (∀ {P:Program} {O:bP} {H:cQ} {b:Code} {e:Env} {Q:Ex->Env->Prop},UI P O H b Q .normal e=Wk P O H b e Q)/\
 (∀ {P:Program} {O:bP} {H:cQ} {b:Code} {e:Env} {Q:Ex->Env->Prop},UI P O H b Q .ret e=Q .ret e)/\
 (∀ {P:Program} {O:bP} {H:cQ} {b:Code} {e:Env} {Q:Ex->Env->Prop} {i:Nat},UI P O H b Q (.exit i) e=Q (.exit i) e)/\
 (∀ {P:Program} {O:bP} {H:cQ} {b:Code} {e:Env} {Q:Ex->Env->Prop} {v:AV},UI P O H b Q (.panic v) e=Q (.panic v) e)/\
 (∀ {P:Program} {O:bP} {H:cQ} {i:Nat} {c:Code} {e:Env} {Q:Ex->Env->Prop},Wk P O H (.block i c) e Q↔Wk P O H c e (fH i Q))/\
 (∀ {i:Nat} {e:Env} {Q:Ex->Env->Prop},fH i Q .normal e=Q .normal e)/\
 (∀ {i:Nat} {e:Env} {Q:Ex->Env->Prop},fH i Q .ret e=Q .ret e)/\
 (∀ {i:Nat} {e:Env} {Q:Ex->Env->Prop} {v:AV},fH i Q (.panic v) e=Q (.panic v) e)/\
 (∀ {i:Nat} {e:Env} {Q:Ex->Env->Prop},fH i Q (.exit i) e=Q .normal e)/\
 (∀ {i j:Nat} {e:Env} {Q:Ex->Env->Prop},j≠i->fH i Q (.exit j) e=Q (.exit j) e)/\
 (∀ {P:Program} {O:bP} {H:cQ} {x:Operand} {a b:Code} {e:Env} {Q:Ex->Env->Prop},Wk P O H (.cond x a b) e Q↔pS P O H (e.eval x) a b e Q)/\
 (∀ {P:Program} {O:bP} {H:cQ} {e:Env} {Q:Ex->Env->Prop},Wk P O H .skip e Q↔Q .normal e)/\
 (∀ {P:Program} {O:bP} {H:cQ} {l:Nat} {e:Env} {Q:Ex->Env->Prop},Wk P O H (.label l) e Q↔Q .normal e)/\
 (∀ {P:Program} {O:bP} {H:cQ} {i:Nat} {e:Env} {Q:Ex->Env->Prop},Wk P O H (.exit i) e Q↔Q (.exit i) e)/\
 (∀ {P:Program} {O:bP} {H:cQ} {e:Env} {Q:Ex->Env->Prop},Wk P O H .ret e Q↔Q .ret e)/\
 (∀ {P:Program} {O:bP} {H:cQ} {c:Code} {e:Env} {Q:Ex->Env->Prop},Wk P O H (.scope c) e Q↔Wk P O H c e Q)/\
 (∀ {P:Program} {O:bP} {H:cQ} {i:Nat} {l:List Oper} {e:Env} {Q:Ex->Env->Prop},Wk P O H (.region i l.toArray false) e Q↔Wo P O l l e Q)/\
 (∀ {P:Program} {O:bP} {H:cQ} {i:Nat} {l:List Oper} {e:Env} {Q:Ex->Env->Prop},Wk P O H (.region i l.toArray true) e Q↔P.follows .mixedOrders=true/\sOk (H i).1 (H i).2 l=true/\Wd P O (H i).1 (H i).2 l e Q l 0 [] e)/\
 (∀ {P:Program} {O:bP} {ops:List Oper} {e:Env} {Q:Ex->Env->Prop},Wo P O ops [] e Q↔Q .normal e)/\
 (∀ {P:Program} {O:bP} {ops:List Oper} {dst:Option Tmp} {op:Op} {ty:TypeId} {pos:String} {after:Array Edge} {rest:List Oper} {e:Env} {Q:Ex->Env->Prop},
   Wo P O ops ({dst:=dst,op:=op,type:=ty,pos:=pos,after:=after,guard:=none}::rest) e Q↔dS P O op e (eG P O ops dst rest e Q))/\
 (∀ {P:Program} {O:bP} {ops:List Oper} {dst:Option Tmp} {op:Op} {ty:TypeId} {pos:String} {after:Array Edge} {j:Nat} {o:Bool} {rest:List Oper} {e:Env} {Q:Ex->Env->Prop},
   Wo P O ops ({dst:=dst,op:=op,type:=ty,pos:=pos,after:=after,guard:=some (j,o)}::rest) e Q↔
    guardK P O (aCa e.t (GZ ops j)) o op ops dst rest e Q)/\
 (∀ {P:Program} {O:bP} {x:Operand} {e:Env} {K:ORes->Prop},dS P O (.move x) e K↔K (.val (e.eval x)))/\
 (∀ {P:Program} {O:bP} {x:Operand} {e:Env} {K:ORes->Prop},dS P O (.assign x) e K↔K (.val (e.eval x)))/\
 (∀ {P:Program} {O:bP} {c a b:Operand} {e:Env} {K:ORes->Prop},dS P O (.pick c a b) e K↔nE (YH (e.eval c) (e.eval a) (e.eval b)) K)/\
 (∀ {P:Program} {O:bP} {op:BinOp} {ty A:TypeId} {x y:Operand} {e:Env} {K:ORes->Prop},dS P O (.binOp op ty x y A) e K↔nE (abin P op ty x y (e.eval x) (e.eval y)) K)/\
 (∀ {P:Program} {O:bP} {op:UnOp} {ty:TypeId} {x:Operand} {e:Env} {K:ORes->Prop},dS P O (.unOp op ty x) e K↔nE (aun op (e.eval x)) K)/\
 (∀ {P:Program} {O:bP} {ty:TypeId} {a:Operand} {e:Env} {K:ORes->Prop},dS P O (.load ty a) e K↔nE (eX P e.s ty (e.eval a)) K)/\
 (∀ {P:Program} {O:bP} {ty:TypeId} {a x:Operand} {e:Env} {K:ORes->Prop},dS P O (.store ty a x) e K↔QA (lM P e.s ty (e.eval a) (e.eval x)) K)/\
 (∀ {P:Program} {O:bP} {ty:TypeId} {x:Operand} {lo r u:Option Operand} {e:Env} {K:ORes->Prop},dS P O (.slice ty x lo r u) e K↔nE (fK P ty (e.eval x) (lo.map e.eval) (r.map e.eval) (u.map e.eval)) K)/\
 (∀ {P:Program} {O:bP} {ty:TypeId} {x:Operand} {f:Nat} {e:Env} {K:ORes->Prop},dS P O (.fieldAddr ty x f) e K↔nE (bR P ty (e.eval x) f) K)/\
 (∀ {P:Program} {O:bP} {ty:TypeId} {x:Operand} {f:Nat} {e:Env} {K:ORes->Prop},dS P O (.field ty x f) e K↔nE (oT P ty (e.eval x) f) K)/\
 (∀ {P:Program} {O:bP} {ty:TypeId} {x i:Operand} {e:Env} {K:ORes->Prop},dS P O (.indexAddr ty x i) e K↔nE (bN P ty (e.eval x) (e.eval i)) K)/\
 (∀ {P:Program} {O:bP} {ty:TypeId} {x i:Operand} {e:Env} {K:ORes->Prop},dS P O (.index ty x i) e K↔nE (rM P ty (e.eval x) (e.eval i)) K)/\
 (∀ {P:Program} {O:bP} {ty:TypeId} {m k:Operand} {w:Bool} {e:Env} {K:ORes->Prop},dS P O (.lookup ty m k w) e K↔nE (alookup P e.s ty (e.eval m) (e.eval k) w) K)/\
 (∀ {P:Program} {O:bP} {ty:TypeId} {m k x:Operand} {e:Env} {K:ORes->Prop},dS P O (.mapUpdate ty m k x) e K↔QA (cU P e.s ty (e.eval m) (e.eval k) (e.eval x)) K)/\
 (∀ {P:Program} {O:bP} {ty:TypeId} {d:Array (Nat × Operand)} {e:Env} {K:ORes->Prop},dS P O (.build ty d) e K↔nE (oS P ty (d.toList.map fun p=>(p.1,e.eval p.2))) K)/\
 (∀ {P:Program} {O:bP} {q dst:TypeId} {x:Operand} {e:Env} {K:ORes->Prop},dS P O (.convert q dst x) e K↔sG (jC P e.s q dst (e.eval x)) K)/\
 (∀ {P:Program} {O:bP} {x:Operand} {e:Env} {K:ORes->Prop},dS P O (.nilCheck x) e K↔nE (uY (e.eval x)) K)/\
 (∀ {P:Program} {O:bP} {f:FuncId} {first cap:Array Operand} {e:Env} {K:ORes->Prop},dS P O (.makeFunc (.func f) first cap) e K↔K (.val (.func (.func f) (first.toList.map e.eval) (cap.toList.map e.eval))))/\
 (∀ {P:Program} {O:bP} {b:Builtin} {args:Array Operand} {ts:Array TypeId} {e:Env} {K:ORes->Prop},dS P O (.call {callee:=.builtin b,args:=args,argTypes:=ts}) e K↔sG (aX P e.s b ts (args.toList.map e.eval)) K)/\
 (∀ {P:Program} {O:bP} {ty:TypeId} {e:Env} {K:ORes->Prop},dS P O (.alloc ty) e K↔jQ (bF P ty) e.s K)/\
 (∀ {P:Program} {O:bP} {ty:TypeId} {x:Operand} {e:Env} {K:ORes->Prop},dS P O (.box ty x) e K↔yT (e.eval x) e.s K)/\
 (∀ {P:Program} {O:bP} {f:Operand} {args:Array Operand} {ts:Array TypeId} {e:Env} {K:ORes->Prop},dS P O (.call {callee:=.value f,args:=args,argTypes:=ts}) e K↔Wcall P O (e.eval f) (args.toList.map e.eval) e.s (callK e.s K)):=
 ⟨.rfl,rfl,rfl,rfl,rfl,.rfl,GY,UV,MG,QC,fun h=>aBs h,aNc,.rfl,.rfl,.rfl,.rfl,.rfl,aBo,aNd,aRo,aNt,aIw,aIz,UY,aJa,aCd,aJb,aJc,aCe,aCf,HA,aCg,HB,aCh,UZ,HC,aCi,QE,MK,ML,QG,IR,YI,aJe⟩
theorem nS:(∀ {t:Tr AV} {i:Nat} {a:AV},(t.set i a).val i=a)/\
 (∀ {t:Tr AV} {i j:Nat} {a:AV},j≠i->(t.set i a).val j=t.val j)/\
 (∀ {t:Tr AObj} {i:Nat} {a:AObj},(t.set i a).get i=some a)/\
 (∀ {t:Tr AObj} {i j:Nat} {a:AObj},j≠i->(t.set i a).get j=t.get j)/\
 (∀ {e:Env} {i:Nat},e.eval (.tmp i)=e.t.val i)/\
 (∀ {e:Env} {v:Value},e.eval (.const v)=NG v)/\
 (∀ {e:Env} {f:FuncId},e.eval (.func f)=.func (.func f) [] [])/\
 (∀ {dst:Option Tmp} {op:Op} {ty:TypeId} {pos:String} {after:Array Edge} {g:Option (Nat × Bool)} {l:List Oper},GZ ({dst:=dst,op:=op,type:=ty,pos:=pos,after:=after,guard:=g}::l) 0=dst)/\
 (∀ {o:Oper} {l:List Oper} {n:Nat},GZ (o::l) (n+1)=GZ l n)/\
 (∀ {t:Tr AV} {d:Nat},aCa t (some d)=t.val d)/\(∀ {p:Prop},(true=false->p)=True)/\(∀ {p:Prop},(false=true->p)=True)/\(∀ {p:Prop},(true=true->p)=p)/\(∀ {p:Prop},(false=false->p)=p):=
 ⟨Tr.val_set_same _ _ _,fun h=>Tr.val_set_ne _ _ _ _ h,Tr.get_set_same _ _ _,fun h=>Tr.get_set_ne _ _ h,Env.eval_tmp _ _,rfl,rfl,rfl,rfl,rfl,by simp,by simp,by simp,by simp⟩
theorem aOv:(∀ {v:AV} {K:ORes->Prop},nE (some v) K↔K (.val v))/\
 (∀ {s:Sto} {K:ORes->Prop},QA (some s) K↔K (.val' .undef s))/\
 (∀ {r:ORes} {K:ORes->Prop},sG (some r) K↔K r)/\
 (∀ {l:List AV} {C:Sto->AV->Prop} {s:Sto},vX (some l) C s↔C s (jR l))/\
 (∀ {A:Prop},aK true A↔A)/\
 (∀ {l:List AV} {s:Sto} {K:ORes->Prop},yT (.agg l) s K↔aK (l.all AV.isCell) (K (.val' (.ptr s.n 0 0) (s.push (ob l)))))/\
 (∀ {v:AV} {s:Sto} {K:ORes->Prop},v.isCell=true->(yT v s K↔K (.val' (.ptr s.n 0 0) (s.push (ob [v])))))/\
 (∀ {l:List AV} {s:Sto} {K:ORes->Prop},jQ (some (.agg l)) s K↔aK (l.all AV.isCell) (K (.val' (.ptr s.n 0 0) (s.push (ob l)))))/\
 (∀ {v:AV} {s:Sto} {K:ORes->Prop},v.isCell=true->(jQ (some v) s K↔K (.val' (.ptr s.n 0 0) (s.push (ob [v])))))/\
 (∀ {P:Program} {O:bP} {H:cQ} {b:Bool} {x y:Code} {e:Env} {Q:Ex->Env->Prop},pS P O H (.bool b) x y e Q↔(b=true->Wk P O H x e Q)/\(b=false->Wk P O H y e Q))/\
 (∀ {P:Program} {O:bP} {H:cQ} {x y:Code} {e:Env} {Q:Ex->Env->Prop},pS P O H (.bool true) x y e Q↔Wk P O H x e Q)/\
 (∀ {P:Program} {O:bP} {H:cQ} {x y:Code} {e:Env} {Q:Ex->Env->Prop},pS P O H (.bool false) x y e Q↔Wk P O H y e Q)/\
 (∀ {P:Program} {O:bP} {b:Bool} {op:Op} {ops:List Oper} {dst:Option Tmp} {rest:List Oper} {e:Env} {Q:Ex->Env->Prop},guardK P O (.bool b) true op ops dst rest e Q↔(b=true->dS P O op e (eG P O ops dst rest e Q))/\(b=false->eG P O ops dst rest e Q (.val .undef)))/\
 (∀ {P:Program} {O:bP} {b:Bool} {op:Op} {ops:List Oper} {dst:Option Tmp} {rest:List Oper} {e:Env} {Q:Ex->Env->Prop},guardK P O (.bool b) false op ops dst rest e Q↔(b=false->dS P O op e (eG P O ops dst rest e Q))/\(b=true->eG P O ops dst rest e Q (.val .undef)))/\
 (∀ {P:Program} {O:bP} {op:Op} {ops:List Oper} {dst:Option Tmp} {rest:List Oper} {e:Env} {Q:Ex->Env->Prop},guardK P O (.bool true) true op ops dst rest e Q↔dS P O op e (eG P O ops dst rest e Q))/\
 (∀ {P:Program} {O:bP} {op:Op} {ops:List Oper} {dst:Option Tmp} {rest:List Oper} {e:Env} {Q:Ex->Env->Prop},guardK P O (.bool true) false op ops dst rest e Q↔eG P O ops dst rest e Q (.val .undef))/\
 (∀ {P:Program} {O:bP} {op:Op} {ops:List Oper} {dst:Option Tmp} {rest:List Oper} {e:Env} {Q:Ex->Env->Prop},guardK P O (.bool false) true op ops dst rest e Q↔eG P O ops dst rest e Q (.val .undef))/\
 (∀ {P:Program} {O:bP} {op:Op} {ops:List Oper} {dst:Option Tmp} {rest:List Oper} {e:Env} {Q:Ex->Env->Prop},guardK P O (.bool false) false op ops dst rest e Q↔dS P O op e (eG P O ops dst rest e Q))/\
 (∀ {P:Program} {O:bP} {l:List AV} {o:Bool} {op:Op} {ops:List Oper} {dst:Option Tmp} {rest:List Oper} {e:Env} {Q:Ex->Env->Prop},guardK P O (.tuple l) o op ops dst rest e Q↔eG P O ops dst rest e Q (.val .undef))/\
 (∀ {P:Program} {O:bP} {a:Nat} {f:Option Nat} {fn:FuncId} {t:Tr AV} {k:List ADef} {s:Sto} {r:ARec} {ops rest:List Oper} {Q:Ex->Env->Prop} {d:Nat} {v:AV},d<a->(eG P O ops (some d) rest ⟨a,f,fn,t,k,s,r⟩ Q (.val v)↔Wo P O ops rest ⟨a,f,fn,t.set d v,k,s,r⟩ Q))/\
 (∀ {P:Program} {O:bP} {e:Env} {ops rest:List Oper} {Q:Ex->Env->Prop} {v:AV},eG P O ops none rest e Q (.val v)↔Wo P O ops rest e Q)/\
 (∀ {P:Program} {O:bP} {a:Nat} {f:Option Nat} {fn:FuncId} {t:Tr AV} {k:List ADef} {s:Sto} {r:ARec} {ops rest:List Oper} {Q:Ex->Env->Prop} {d:Nat} {v:AV} {h:Sto},d<a->(eG P O ops (some d) rest ⟨a,f,fn,t,k,s,r⟩ Q (.val' v h)↔Wo P O ops rest ⟨a,f,fn,t.set d v,k,h,r⟩ Q))/\
 (∀ {P:Program} {O:bP} {a:Nat} {f:Option Nat} {fn:FuncId} {t:Tr AV} {k:List ADef} {s:Sto} {r:ARec} {ops rest:List Oper} {Q:Ex->Env->Prop} {v:AV} {h:Sto},eG P O ops none rest ⟨a,f,fn,t,k,s,r⟩ Q (.val' v h)↔Wo P O ops rest ⟨a,f,fn,t,k,h,r⟩ Q)/\
 (∀ {P:Program} {O:bP} {a:Nat} {f:Option Nat} {fn:FuncId} {t:Tr AV} {k:List ADef} {s:Sto} {r:ARec} {ops rest:List Oper} {Q:Ex->Env->Prop} {dst:Option Tmp} {v:AV} {h:Sto},eG P O ops dst rest ⟨a,f,fn,t,k,s,r⟩ Q (.pan v h)↔Q (.panic v) ⟨a,f,fn,t,k,h,r⟩)/\
 (∀ {s:Sto} {K:ORes->Prop} {v:AV},callK s K (.ret v none)=K (.val v))/\
 (∀ {s h:Sto} {K:ORes->Prop} {v:AV},callK s K (.ret v (some h))=K (.val' v h))/\
 (∀ {s:Sto} {K:ORes->Prop} {v:AV},callK s K (.pan v none)=K (.pan v s))/\
 (∀ {s h:Sto} {K:ORes->Prop} {v:AV},callK s K (.pan v (some h))=K (.pan v h))/\
 (∀ {c:CRes} {K:CRes->Prop} {R:Prop},QI (some c) K R=K c)/\
 (∀ {P:Program} {O:bP} {g:FuncId} {first cap args:List AV} {s:Sto} {K:CRes->Prop},Wcall P O (.func (.func g) first cap) args s K↔QI (O g (first++args++cap) s) K (aVd P O (.func (.func g) first cap) args s K))/\
 (∀ {P:Program} {m:List ResultVar} {C D:Sto->AV->Prop} {a:Nat} {f:Option Nat} {fn:FuncId} {t:Tr AV} {s:Sto},iR P m C D .ret ⟨a,f,fn,t,[],s,.no⟩↔vX (aU P ⟨a,f,fn,t,[],s,.no⟩ m) C s)/\
 (∀ {P:Program} {m:List ResultVar} {C D:Sto->AV->Prop} {a:Nat} {f:Option Nat} {fn:FuncId} {t:Tr AV} {s:Sto},iR P m C D .normal ⟨a,f,fn,t,[],s,.no⟩↔vX (aU P ⟨a,f,fn,t,[],s,.no⟩ m) C s)/\
 (∀ {P:Program} {m:List ResultVar} {C D:Sto->AV->Prop} {a:Nat} {f:Option Nat} {fn:FuncId} {t:Tr AV} {s:Sto} {v:AV},iR P m C D (.panic v) ⟨a,f,fn,t,[],s,.no⟩↔D s v):=
 ⟨QB,aIr,aIs,PT,aNv,aJd,aCj,VA,QH,UK,UJ,PK,aBy,aBz,aBu,aBv,aBw,aBx,MI,aIx,aCb,aCc,UX,aIy,IT,FN,aCk,VB,aCl,qY,aIe,PU,UP⟩
theorem yJ:(∀ {P:Program} {t:TypeId} {x:Operand} {y:Operand} {k:IntKind} {a:Int} {b:Int},abin P .add t x y (.int k a) (.int k b)=some (.int k (k.wrap (a+b))))/\
 (∀ {P:Program} {t:TypeId} {x:Operand} {y:Operand} {k:IntKind} {a:Int} {b:Int},abin P .sub t x y (.int k a) (.int k b)=some (.int k (k.wrap (a-b))))/\
 (∀ {P:Program} {t:TypeId} {x:Operand} {y:Operand} {k:IntKind} {a:Int} {b:Int},abin P .mul t x y (.int k a) (.int k b)=some (.int k (k.wrap (a*b))))/\
 (∀ {P:Program} {t:TypeId} {x:Operand} {y:Operand} {k:IntKind} {a:Int} {b:Int},b≠0->abin P .quo t x y (.int k a) (.int k b)=some (.int k (k.wrap (a.tdiv b))))/\
 (∀ {P:Program} {t:TypeId} {x:Operand} {y:Operand} {k:IntKind} {a:Int} {b:Int},b≠0->abin P .rem t x y (.int k a) (.int k b)=some (.int k (a.tmod b)))/\
 (∀ {P:Program} {t:TypeId} {x:Operand} {y:Operand} {k:IntKind} {a:Int} {b:Int},abin P .eql t x y (.int k a) (.int k b)=some (.bool (decide (a=b))))/\
 (∀ {P:Program} {t:TypeId} {x:Operand} {y:Operand} {k:IntKind} {a:Int} {b:Int},abin P .neq t x y (.int k a) (.int k b)=some (.bool (!decide (a=b))))/\
 (∀ {P:Program} {t:TypeId} {x:Operand} {y:Operand} {k:IntKind} {a:Int} {b:Int},abin P .lss t x y (.int k a) (.int k b)=some (.bool (decide (a<b))))/\
 (∀ {P:Program} {t:TypeId} {x:Operand} {y:Operand} {k:IntKind} {a:Int} {b:Int},abin P .leq t x y (.int k a) (.int k b)=some (.bool (decide (a<=b))))/\
 (∀ {P:Program} {t:TypeId} {x:Operand} {y:Operand} {k:IntKind} {a:Int} {b:Int},abin P .gtr t x y (.int k a) (.int k b)=some (.bool (decide (b<a))))/\
 (∀ {P:Program} {t:TypeId} {x:Operand} {y:Operand} {k:IntKind} {a:Int} {b:Int},abin P .geq t x y (.int k a) (.int k b)=some (.bool (decide (b<=a))))/\
 (∀ {b:Bool},aun .not (.bool b)=some (.bool !b))/\
 (∀ {k:IntKind} {a:Int},aun .neg (.int k a)=some (.int k (k.wrap (0-a))))/\
 (∀ {l:List AV} {i:Nat},(Tr.leaf.lay 0 l).val i=l[i]?.getD .top)/\
 (∀ {P:Program} {e:Env} {d:Nat} {l:List ResultVar},aU P e (.tmp d::l)=(aU P e l).map (e.t.val d::·))/\
 (∀ {P:Program} {e:Env},aU P e []=some [])/\
 (∀ {v:AV},jR [v]=v)/\
 (∀ {v w:AV} {l:List AV},jR (v::w::l)=.tuple (v::w::l))/\
 (jR []=.tuple [])/\
 (∀ {a b:AV},YH (.bool true) a b=some a)/\
 (∀ {a b:AV},YH (.bool false) a b=some b)/\
 (∀ {k:IntKind} {a:Int},NG (.int k a)=.int k a)/\
 (∀ {b:Bool},NG (.bool b)=.bool b)/\
 (NG (.slice none 0 0)=.nils)/\
 (∀ {b:ByteArray},NG (.string b)=.str (b.data.toList.map (·.toNat))):=
 ⟨aIg,aIh,aIi,aIj,aIk,aIl,aIm,aIn,aIo,aIp,aIq,rfl,aNo,Tr.val_lay _ _,MA,rfl,rfl,rfl,rfl,rfl,rfl,rfl,rfl,rfl,rfl⟩
theorem tQ:(∀ {p:Prop},(True->p)=p)/\(∀ {p:Prop},(False->p)=True)/\(∀ {p:Prop},(p->True)=True)/\(∀ {i:Decidable True},@decide True i=true)/\(∀ {i:Decidable False},@decide False i=false)/\
 (∀ {p:Prop},(True/\p)=p)/\(∀ {p:Prop},(p/\True)=p)/\(∀ {p:Prop},(False/\p)=False)/\(∀ {p:Prop},(p/\False)=False)/\((!true)=false)/\((!false)=true)/\
 (∀ {p:Prop} {i:Decidable p},(@decide p i=true)=p)/\(∀ {p:Prop} {i:Decidable p},(@decide p i=false)=¬p)/\(∀ {b:Bool},((!b)=true)=(b=false))/\(∀ {b:Bool},((!b)=false)=(b=true))/\((¬True)=False)/\((¬False)=True)/\
 (∀ {α:Type} {a:α} {l:List α},(a::l)[0]?=some a)/\(∀ {α:Type} {a:α} {l:List α} {n:Nat},(a::l)[n+1]?=l[n]?)/\(∀ {α:Type} {n:Nat},([]:List α)[n]?=none)/\(∀ {α:Type} {a b:α},(some a).getD b=a)/\(∀ {α:Type} {b:α},(none:Option α).getD b=b)/\(∀ {α β:Type} {f:α->β} {a:α},(some a).map f=some (f a))/\(∀ {α β:Type} {f:α->β},(none:Option α).map f=none)/\
 (∀ {α β:Type} {f:α->β} {a:α} {l:List α},(a::l).map f=f a::l.map f)/\(∀ {α β:Type} {f:α->β},([]:List α).map f=[])/\(∀ {α:Type} {a:α} {l m:List α},(a::l)++m=a::(l++m))/\(∀ {α:Type} {m:List α},[]++m=m)/\(∀ {α:Type} {m:List α},m++[]=m)/\
 (∀ {α:Type} {l:List α},l.toArray.toList=l)/\(∀ {α:Type} {p:α->Bool} {a:α} {l:List α},(a::l).all p=(p a&&l.all p))/\(∀ {α:Type} {p:α->Bool},([]:List α).all p=true)/\(∀ {b:Bool},(true&&b)=b)/\
 (∀ {α:Type} {a:α},(a=a)=True)/\(∀ {α:Type} {a b:α} {l m:List α},(a::l=b::m)=(a=b/\l=m)):=
 ⟨true_implies _,false_implies _,by simp,decide_true _,decide_false _,true_and _,and_true _,false_and _,and_false _,rfl,rfl,decide_eq_true_eq,by simp,by simp,by simp,not_true_eq_false,not_false_eq_true,
  rfl,rfl,rfl,rfl,rfl,rfl,rfl,rfl,rfl,rfl,rfl,List.append_nil _,rfl,rfl,rfl,rfl,eq_self _,by simp⟩
theorem PL:(∀ {k:IntKind} {a:Int},(AV.int k a).isCell=true)/\(∀ {b:Bool},(AV.bool b).isCell=true)/\(∀ {l:List Nat},(AV.str l).isCell=true)/\(AV.nils.isCell=true)/\(AV.nilm.isCell=true)/\(AV.nilp.isCell=true)/\(AV.nilf.isCell=true)/\(AV.nili.isCell=true)/\
 (∀ {l:List AV} {c:Bool},(AV.fz l c).isCell=true)/\(∀ {i g o n:Nat} {c:ACap},(AV.sl i g o n c).isCell=true)/\(∀ {i g o:Nat},(AV.ptr i g o).isCell=true)/\(∀ {v:AV},(AV.pf v).isCell=true)/\(∀ {i:Nat},(AV.map i).isCell=true)/\(∀ {f:Fn} {l m:List AV},(AV.func f l m).isCell=true)/\
 (∀ {cs:List AV},ob cs=aR 0 cs)/\(∀ {n low:Nat} {o:Tr AObj} {x:AObj},(Sto.mk n low o).push x=⟨n+1,low,o.set n x⟩)/\(∀ {n low:Nat} {o:Tr AObj} {i:Nat},i<n->(Sto.mk n low o).get i=o.get i)/\(∀ {n:Nat} {o:Tr AObj} {i:Nat} {x:AObj},(Sto.mk n 0 o).put i x=⟨n,0,o.set i x⟩)/\
 (∀ {g off:Nat} {cs:List AV},ldK (some none) (some (aR g cs)) g off=cs[off]?)/\(∀ {g off k:Nat} {cs:List AV},off+k<=cs.length->ldK (some (some k)) (some (aR g cs)) g off=some (.agg (bC cs off k)))/\
 (∀ {s:Sto} {id g off:Nat} {v:AV} {cs:List AV},v.isCell=true->off<cs.length->stK s (some none) id g off v (some (aR g cs))=some (s.put id (aR g (cs.set off v))))/\
 (∀ {s:Sto} {id g off k:Nat} {vs cs:List AV},vs.length=k->vs.all AV.isCell=true->off+k<=cs.length->stK s (some (some k)) id g off (.agg vs) (some (aR g cs))=some (s.put id (aR g (dH cs off vs))))/\
 (∀ {i g o:Nat},uY (.ptr i g o)=some (.ptr i g o))/\(∀ {v:AV},uY (.pf v)=some (.pf v))/\
 (∀ {α:Type} {a b:α} {l:List α},(a::l).set 0 b=b::l)/\(∀ {α:Type} {a b:α} {l:List α} {n:Nat},(a::l).set (n+1) b=a::l.set n b)/\(∀ {α:Type} {a:α} {l:List α},(a::l).length=l.length+1)/\(∀ {α:Type},([]:List α).length=0)/\
 (∀ {l m:List AV},m.length=l.length->dH l 0 m=m)/\(∀ {f:FuncId} {g:List AV->Option AV} {L:List mE} {args:List AV} {s:Sto},orcL (ent f g::L) f args s=(g args).map fun v=>.ret v none)/\(∀ {f h:FuncId} {g:List AV->Option AV} {L:List mE} {args:List AV} {s:Sto},h≠f->orcL (ent h g::L) f args s=orcL L f args s):=
 ⟨rfl,rfl,rfl,rfl,rfl,rfl,rfl,rfl,rfl,rfl,rfl,rfl,rfl,rfl,rfl,rfl,Sto.get_mk,Sto.put_mk0,aNj,aNk,aNm,aNn,rfl,rfl,rfl,rfl,rfl,rfl,fun h=>qW h,yQ,aRg⟩
end
section
theorem wdr:(∀ {P:Program} {O:bP} {qs ps:List Nat} {ops:List Oper} {d e:Env} {Q:Ex->Env->Prop} {i:Nat} {N:List (Nat × Nat)},Wd P O qs ps ops d Q [] i N e=Q .normal e)/\
 (∀ {P:Program} {O:bP} {qs ps:List Nat} {ops:List Oper} {d e:Env} {Q:Ex->Env->Prop} {dst:Option Tmp} {op:Op} {ty:TypeId} {pos:String} {after:Array Edge} {rest:List Oper} {i:Nat} {N:List (Nat × Nat)},
   Wd P O qs ps ops d Q ({dst:=dst,op:=op,type:=ty,pos:=pos,after:=after,guard:=none}::rest) i N e=sD P O (cX qs ps i op) (exY (xD ps) (keptY (rD ps i d.s.n) (cB ops) (bif cJ ps then [] else N) i)) op e (wZ dst e (LX ps i op) (nD ps d.s.n) (xD ps) (cY op) i N (Wd P O qs ps ops d Q rest (i+1)) (LY ops d Q i)))/\
 (∀ {P:Program} {O:bP} {qs ps:List Nat} {ops:List Oper} {d e:Env} {Q:Ex->Env->Prop} {dst:Option Tmp} {op:Op} {ty:TypeId} {pos:String} {after:Array Edge} {j:Nat} {o:Bool} {rest:List Oper} {i:Nat} {N:List (Nat × Nat)},
   Wd P O qs ps ops d Q ({dst:=dst,op:=op,type:=ty,pos:=pos,after:=after,guard:=some (j,o)}::rest) i N e=gF P O (aCa e.t (GZ ops j)) o (cX qs ps i op) (exY (xD ps) (keptY (rD ps i d.s.n) (cB ops) (bif cJ ps then [] else N) i)) op e (wZ dst e (LX ps i op) (nD ps d.s.n) (xD ps) (cY op) i N (Wd P O qs ps ops d Q rest (i+1)) (LY ops d Q i)))/\
 (∀ {P:Program} {O:bP} {kd:Nat} {Y:Nat->Prop} {ty:TypeId} {a:Operand} {e:Env} {K:ORes->Prop},sD P O kd Y (.load ty a) e K=(eK Y (e.eval a)/\nE (eX P e.s ty (e.eval a)) K))/\
 (∀ {P:Program} {O:bP} {kd:Nat} {Y:Nat->Prop} {ty:TypeId} {m k:Operand} {u:Bool} {e:Env} {K:ORes->Prop},sD P O kd Y (.lookup ty m k u) e K=(eK Y (e.eval m)/\nE (alookup P e.s ty (e.eval m) (e.eval k) u) K))/\
 (∀ {P:Program} {O:bP} {kd:Nat} {Y:Nat->Prop} {q dst:TypeId} {x:Operand} {e:Env} {K:ORes->Prop},sD P O kd Y (.convert q dst x) e K=(eK Y (e.eval x)/\sG (jC P e.s q dst (e.eval x)) (vK K)))/\
 (∀ {P:Program} {O:bP} {kd:Nat} {Y:Nat->Prop} {ty:TypeId} {a x:Operand} {e:Env} {K:ORes->Prop},sD P O kd Y (.store ty a x) e K=((kd=3/\iQ e.s.n [e.eval a,e.eval x])/\QA (lM P e.s ty (e.eval a) (e.eval x)) (cK e.s.n K)))/\
 (∀ {P:Program} {O:bP} {kd:Nat} {Y:Nat->Prop} {ty:TypeId} {m k x:Operand} {e:Env} {K:ORes->Prop},sD P O kd Y (.mapUpdate ty m k x) e K=((kd=3/\iQ e.s.n [e.eval m,e.eval k,e.eval x])/\QA (cU P e.s ty (e.eval m) (e.eval k) (e.eval x)) (cK e.s.n K)))/\
 (∀ {P:Program} {O:bP} {kd:Nat} {Y:Nat->Prop} {ty:TypeId} {e:Env} {K:ORes->Prop},sD P O kd Y (.alloc ty) e K=jQ (bF P ty) e.s K)/\
 (∀ {P:Program} {O:bP} {kd:Nat} {Y:Nat->Prop} {ty:TypeId} {x:Operand} {e:Env} {K:ORes->Prop},sD P O kd Y (.box ty x) e K=(iQ e.s.n [e.eval x]/\yT (e.eval x) e.s K))/\
 (∀ {P:Program} {O:bP} {kd:Nat} {Y:Nat->Prop} {ty:TypeId} {len:Nat} {b:Array (Nat × Operand)} {e:Env} {K:ORes->Prop},sD P O kd Y (.buildSlice ty len b) e K=(iQ e.s.n (b.toList.map fun p=>e.eval p.2)/\dS P O (.buildSlice ty len b) e K))/\
 (∀ {P:Program} {O:bP} {kd:Nat} {Y:Nat->Prop} {ty:TypeId} {l c:Operand} {e:Env} {K:ORes->Prop},sD P O kd Y (.makeSlice ty l c) e K=(iQ e.s.n [e.eval l,e.eval c]/\dS P O (.makeSlice ty l c) e K))/\
 (∀ {P:Program} {O:bP} {kd:Nat} {Y:Nat->Prop} {f:Operand} {args:Array Operand} {ts:Array TypeId} {e:Env} {K:ORes->Prop},sD P O kd Y (.call {callee:=.value f,args:=args,argTypes:=ts}) e K=vW P O kd (e.eval f) (args.toList.map e.eval) e.s K)/\
 (∀ {P:Program} {O:bP} {kd:Nat} {Y:Nat->Prop} {args:Array Operand} {ts:Array TypeId} {e:Env} {K:ORes->Prop},sD P O kd Y (.call {callee:=.builtin .len,args:=args,argTypes:=ts}) e K=(FG Y (args.toList.map e.eval)/\sG (aX P e.s .len ts (args.toList.map e.eval)) (vK K)))/\
 (∀ {P:Program} {O:bP} {kd:Nat} {Y:Nat->Prop} {args:Array Operand} {ts:Array TypeId} {e:Env} {K:ORes->Prop},sD P O kd Y (.call {callee:=.builtin .min,args:=args,argTypes:=ts}) e K=sG (aX P e.s .min ts (args.toList.map e.eval)) (vK K))/\
 (∀ {P:Program} {O:bP} {kd:Nat} {Y:Nat->Prop} {args:Array Operand} {ts:Array TypeId} {e:Env} {K:ORes->Prop},sD P O kd Y (.call {callee:=.builtin .max,args:=args,argTypes:=ts}) e K=sG (aX P e.s .max ts (args.toList.map e.eval)) (vK K))/\
 (∀ {P:Program} {O:bP} {kd:Nat} {Y:Nat->Prop} {args:Array Operand} {ts:Array TypeId} {e:Env} {K:ORes->Prop},sD P O kd Y (.call {callee:=.builtin .append,args:=args,argTypes:=ts}) e K=((kd=3/\iQ e.s.n (args.toList.map e.eval))/\sG (aX P e.s .append ts (args.toList.map e.eval)) (cF (fun r=>aX P r .append ts (args.toList.map e.eval)) Y e.s K)))/\
 (∀ {P:Program} {O:bP} {kd:Nat} {Y:Nat->Prop} {args:Array Operand} {ts:Array TypeId} {e:Env} {K:ORes->Prop},sD P O kd Y (.call {callee:=.builtin .copy,args:=args,argTypes:=ts}) e K=((kd=3/\iQ e.s.n (args.toList.map e.eval))/\sG (aX P e.s .copy ts (args.toList.map e.eval)) (cF (fun r=>aX P r .copy ts (args.toList.map e.eval)) Y e.s K)))/\
 (∀ {P:Program} {O:bP} {kd:Nat} {Y:Nat->Prop} {op:Op} {e:Env} {K:ORes->Prop},fO op=true->sD P O kd Y op e K=dS P O op e K):=
 ⟨rfl,rfl,rfl,rfl,rfl,rfl,rfl,rfl,rfl,rfl,rfl,rfl,rfl,rfl,rfl,rfl,rfl,rfl,fun {_ _ _ _ op _ _} h=>by cases op<;>first | exact propext ⟨fun x=>x.2,fun x=>⟨rfl,x⟩⟩ | (exact Bool.noConfusion h)⟩
theorem aUv:(∀ {F:Sto->Option ORes} {Y:Nat->Prop} {s:Sto} {K:ORes->Prop} {v:AV},cF F Y s K (.val v)=((∀ m,(∀ id,Y id->m.get id=s.get id)->F m=some (.val v))/\K (.val v)))/\(∀ {F:Sto->Option ORes} {Y:Nat->Prop} {s m:Sto} {K:ORes->Prop} {v:AV},cF F Y s K (.val' v m)=(s.n<=m.n/\K (.val' v m)))/\(∀ {F:Sto->Option ORes} {Y:Nat->Prop} {s m:Sto} {K:ORes->Prop} {v:AV},cF F Y s K (.pan v m)=(s.n<=m.n/\K (.pan v m)))/\(∀ {n:Nat} {K:ORes->Prop} {v:AV} {s:Sto},cK n K (.val' v s)=(n<=s.n/\K (.val' v s)))/\(∀ {n:Nat} {K:ORes->Prop} {v:AV} {s:Sto},cK n K (.pan v s)=(n<=s.n/\K (.pan v s)))/\(∀ {K:ORes->Prop} {v:AV},vK K (.val v)=K (.val v))/\
 (∀ {A:Nat} {E:Option Nat} {fn:FuncId} {t:Tr AV} {C:List ADef} {s:Sto} {r:ARec} {md:Bool} {n0:Nat} {X:Nat->Prop} {nw:Bool} {i:Nat} {N:List (Nat × Nat)} {next:List (Nat × Nat)->Env->Prop} {B:AV->Sto->Prop} {d:Nat} {v:AV},d<A->wZ (some d) ⟨A,E,fn,t,C,s,r⟩ md n0 X nw i N next B (.val v)=next N ⟨A,E,fn,t.set d v,C,s,r⟩)/\
 (∀ {e:Env} {md:Bool} {n0:Nat} {X:Nat->Prop} {nw:Bool} {i:Nat} {N:List (Nat × Nat)} {next:List (Nat × Nat)->Env->Prop} {B:AV->Sto->Prop} {v:AV},wZ none e md n0 X nw i N next B (.val v)=next N e)/\
 (∀ {A:Nat} {E:Option Nat} {fn:FuncId} {t:Tr AV} {C:List ADef} {s m:Sto} {r:ARec} {md:Bool} {n0:Nat} {X:Nat->Prop} {nw:Bool} {i:Nat} {N:List (Nat × Nat)} {next:List (Nat × Nat)->Env->Prop} {B:AV->Sto->Prop} {d:Nat} {v:AV},d<A->wZ (some d) ⟨A,E,fn,t,C,s,r⟩ md n0 X nw i N next B (.val' v m)=((md=true->qU X n0 s m)/\next (bif nw then (i,s.n)::N else N) ⟨A,E,fn,t.set d v,C,m,r⟩))/\
 (∀ {A:Nat} {E:Option Nat} {fn:FuncId} {t:Tr AV} {C:List ADef} {s m:Sto} {r:ARec} {md:Bool} {n0:Nat} {X:Nat->Prop} {nw:Bool} {i:Nat} {N:List (Nat × Nat)} {next:List (Nat × Nat)->Env->Prop} {B:AV->Sto->Prop} {v:AV},wZ none ⟨A,E,fn,t,C,s,r⟩ md n0 X nw i N next B (.val' v m)=((md=true->qU X n0 s m)/\next (bif nw then (i,s.n)::N else N) ⟨A,E,fn,t,C,m,r⟩))/\
 (∀ {dst:Option Tmp} {e:Env} {md:Bool} {n0:Nat} {X:Nat->Prop} {nw:Bool} {i:Nat} {N:List (Nat × Nat)} {next:List (Nat × Nat)->Env->Prop} {B:AV->Sto->Prop} {v:AV} {m:Sto},wZ dst e md n0 X nw i N next B (.pan v m)=((md=true->qU X n0 e.s m)/\B v m))/\
 (∀ {ops:List Oper} {R:Env} {Q:Ex->Env->Prop} {i:Nat} {v:AV} {s:Sto},LY ops R Q i v s=(jY (cB ops) i ops 0=true/\Q (.panic v) (fQ {R with s:=s} ops)))/\
 (∀ {P:Program} {O:bP} {kd l:Nat} {first cap args:List AV} {s:Sto} {K:ORes->Prop},vW P O kd (.func (.yield l) first cap) args s K=((kd=3/\iQ s.n (.func (.yield l) first cap::args))/\Wcall P O (.func (.yield l) first cap) args s (yK s.n K)))/\
 (∀ {P:Program} {O:bP} {kd:Nat} {g:FuncId} {first cap args:List AV} {s:Sto} {K:ORes->Prop},vW P O kd (.func (.func g) first cap) args s K=GU (O g (first++args++cap)) (O g (first++args++cap) s) (kd=3/\iQ s.n (.func (.func g) first cap::args)) s K)/\
 (∀ {F:Sto->Option CRes} {t:Prop} {s:Sto} {K:ORes->Prop} {v:AV},GU F (some (.ret v none)) t s K=((∀ m,F m=some (.ret v none))/\K (.val v)))/\
 (∀ {F:Sto->Option CRes} {t:Prop} {s m:Sto} {K:ORes->Prop} {v:AV},GU F (some (.ret v (some m))) t s K=(t/\s.n<=m.n/\K (.val' v m)))/\
 (∀ {F:Sto->Option CRes} {t:Prop} {s:Sto} {K:ORes->Prop} {v:AV},GU F (some (.pan v none)) t s K=(t/\K (.pan v s)))/\
 (∀ {F:Sto->Option CRes} {t:Prop} {s m:Sto} {K:ORes->Prop} {v:AV},GU F (some (.pan v (some m))) t s K=(t/\s.n<=m.n/\K (.pan v m)))/\
 (∀ {P:Program} {O:bP} {kd:Nat} {Y:Nat->Prop} {op:Op} {e:Env} {K:ORes->Prop} {b:Bool},gF P O (.bool b) true kd Y op e K=((b=true->sD P O kd Y op e K)/\(b=false->K (.val .undef))))/\(∀ {P:Program} {O:bP} {kd:Nat} {Y:Nat->Prop} {op:Op} {e:Env} {K:ORes->Prop} {b:Bool},gF P O (.bool b) false kd Y op e K=((b=false->sD P O kd Y op e K)/\(b=true->K (.val .undef))))/\
 (∀ {P:Program} {O:bP} {kd:Nat} {Y:Nat->Prop} {op:Op} {e:Env} {K:ORes->Prop},gF P O (.bool true) true kd Y op e K=sD P O kd Y op e K)/\(∀ {P:Program} {O:bP} {kd:Nat} {Y:Nat->Prop} {op:Op} {e:Env} {K:ORes->Prop},gF P O (.bool false) false kd Y op e K=sD P O kd Y op e K)/\
 (∀ {P:Program} {O:bP} {kd:Nat} {Y:Nat->Prop} {op:Op} {e:Env} {K:ORes->Prop},gF P O (.bool true) false kd Y op e K=K (.val .undef))/\(∀ {P:Program} {O:bP} {kd:Nat} {Y:Nat->Prop} {op:Op} {e:Env} {K:ORes->Prop},gF P O (.bool false) true kd Y op e K=K (.val .undef))/\
 (∀ {P:Program} {O:bP} {kd:Nat} {Y:Nat->Prop} {op:Op} {e:Env} {K:ORes->Prop} {l:List AV} {w:Bool},gF P O (.tuple l) w kd Y op e K=K (.val .undef))/\
 (∀ {n:Nat->Prop} {id g o:Nat},eK n (.ptr id g o)=n id)/\(∀ {n:Nat->Prop} {id:Nat},eK n (.map id)=n id)/\(∀ {n:Nat->Prop} {id g o l:Nat} {c:ACap},eK n (.sl id g o l c)=n id)/\(∀ {n:Nat->Prop} {v:AV},eK n (.pf v)=True)/\(∀ {n:Nat->Prop} {l:List AV} {c:Bool},eK n (.fz l c)=True)/\(∀ {n:Nat->Prop} {k:IntKind} {x:Int},eK n (.int k x)=True)/\(∀ {n:Nat->Prop} {l:List Nat},eK n (.str l)=True)/\(∀ {n:Nat->Prop},eK n .nils=True)/\(∀ {n:Nat->Prop},eK n .nilm=True)/\(∀ {n:Nat->Prop} {l:List AV},eK n (.agg l)=True)/\
 (∀ {n:Nat->Prop},FG n []=True)/\(∀ {n:Nat->Prop} {v:AV} {l:List AV},FG n (v::l)=(eK n v/\FG n l))/\(∀ {n:Nat},iQ n []=True)/\(∀ {n:Nat} {v:AV} {l:List AV},iQ n (v::l)=(UnderE n v/\iQ n l))/\
 (∀ {n:Nat} {k:IntKind} {x:Int},UnderE n (.int k x)=True)/\(∀ {n:Nat} {b:Bool},UnderE n (.bool b)=True)/\(∀ {n:Nat} {l:List Nat},UnderE n (.str l)=True)/\(∀ {n:Nat},UnderE n .nils=True)/\(∀ {n:Nat},UnderE n .nilp=True)/\(∀ {n:Nat},UnderE n .nilm=True)/\(∀ {n:Nat},UnderE n .nilf=True)/\(∀ {n:Nat},UnderE n .nili=True)/\
 (∀ {n id g o:Nat},UnderE n (.ptr id g o)=(id<n))/\(∀ {n id:Nat},UnderE n (.map id)=(id<n))/\(∀ {n id g o l:Nat} {c:ACap},UnderE n (.sl id g o l c)=(id<n))/\(∀ {n:Nat} {l:List AV},UnderE n (.agg l)=iQ n l)/\(∀ {n:Nat} {l:List AV},UnderE n (.tuple l)=iQ n l)/\(∀ {n:Nat} {f:FuncId} {a c:List AV},UnderE n (.func (.func f) a c)=(iQ n a/\iQ n c))/\(∀ {n:Nat} {v:AV} {t:TypeId},UnderE n (.iface t v)=UnderE n v)/\(∀ {n:Nat} {v:AV},UnderE n (.pf v)=UnderE n v)/\(∀ {p:Prop},(Sto->p)=p)/\
 (∀ {i:Nat} {op:Op},LX [] i op=false)/\(∀ {i j:Nat} {op:Op},LX (aL j).2 i op=false)/\(∀ {i:Nat} {op:Op},LX [1000,0,1000000] i op=(decide (i<1000000)||cY op))/\(∀ {i k t:Nat} {l:List Nat} {op:Op},LX (1000::k::t::l) i op=(decide (i<t)||cY op))/\(∀ {i:Nat} {l:List Nat} {op:Op},cJ l=false->LX l i op=false)/\(∀ {i:Nat} {op:Op},i<1000000->LX [1000] i op=true)/\(∀ {b:Bool},(true||b)=true)/\(∀ {b:Bool},(false||b)=b)/\(∀ {n:Nat},nD [] n=n)/\(∀ {i n:Nat},nD (aL i).2 n=n)/\(∀ {n:Nat},nD [1000] n=n)/\(∀ {n k:Nat} {l:List Nat},nD (1000::k::l) n=sE n (k-2000))/\(∀ {n:Nat} {l:List Nat},cJ l=false->nD l n=n)/\(∀ {i n:Nat},rD [] i n=n)/\(∀ {j i n:Nat},rD (aL j).2 i n=n)/\(∀ {i n:Nat},rD [1000] i n=n)/\(∀ {i n k t:Nat},rD [1000,k,t] i n=sE n (k-2000))/\(∀ {i n k t a:Nat} {l:List Nat},i∈a::l->rD (1000::k::t::a::l) i n=n)/\(∀ {i n k t a:Nat} {l:List Nat},¬ i∈a::l->rD (1000::k::t::a::l) i n=sE n (k-2000))/\(∀ {i n:Nat} {l:List Nat},cJ l=false->rD l i n=n)/\(∀ {a b c:Nat},(c<sE a b)=(c<a/\c<b))/\(∀ {a b c:Nat},(sE a b<=c)=(a<=c∨b<=c))/\(cJ []=false)/\(∀ {i:Nat},cJ (aL i).2=false)/\(∀ {n:Nat},(n<=n)=True)/\(∀ {l:List Nat},cJ (1000::l)=true)/\(∀ {n n0 low u:Nat} {o:Tr AObj} {x:AObj},n0<=n->kM n0 ⟨n,low,o⟩ ⟨n+1,u,o.set n x⟩=True)/\(∀ {n n0 low u k:Nat} {o:Tr AObj} {x:AObj},n0<=k->kM n0 ⟨n,low,o⟩ ⟨n,u,o.set k x⟩=True)/\
 (∀ {n0 i id:Nat} {l:List Nat},keptY n0 l [] i id=(id<n0))/\(∀ {n0 i id k j:Nat} {l:List Nat} {N:List (Nat × Nat)},keptY n0 l ((k,j)::N) i id=((j=id/\(l.getD i 0).testBit k=true)∨keptY n0 l N i id))/\
 (∀ {t:TypeId},cY (.alloc t)=true)/\(∀ {t:TypeId} {x:Operand},cY (.box t x)=true)/\(∀ {t:TypeId} {n:Nat} {ps:Array (Nat × Operand)},cY (.buildSlice t n ps)=true)/\(∀ {t:TypeId} {x y:Operand},cY (.makeSlice t x y)=true)/\(∀ {t:TypeId} {x:Option Operand},cY (.makeMap t x)=true)/\
 (∀ {t:TypeId} {x y:Operand},cY (.store t x y)=false)/\(∀ {t:TypeId} {x y z:Operand},cY (.mapUpdate t x y z)=false)/\(∀ {c:Call},cY (.call c)=false)/\(∀ {a b:List (Nat × Nat)},(bif true then a else b)=a)/\(∀ {a b:List (Nat × Nat)},(bif false then a else b)=b)/\
 (∀ {p:Prop},(True∨p)=True)/\(∀ {p:Prop},(p∨True)=True)/\(∀ {p:Prop},(False∨p)=p)/\(∀ {p:Prop},(p∨False)=p)/\
 (xD []=noX)/\(∀ {i:Nat},xD (aL i).2=noX)/\(∀ {l:List Nat},xD (1000::l)=noX)/\(∀ {l:List Nat},cJ l=false->xD l=noX)/\(∀ {Y:Nat->Prop},exY noX Y=Y)/\(∀ {n0:Nat} {s m:Sto},qU noX n0 s m=kM n0 s m)/\(∀ {X Y:Nat->Prop} {id:Nat},exY X Y id=(Y id/\¬ X id))/\
 (∀ {l:List Nat},cJ (1001::l)=true)/\(∀ {l:List Nat} {i:Nat} {op:Op},i<1000000->LX (1001::l) i op=true)/\(∀ {k n:Nat} {l:List Nat},nD (1001::k::l) n=sE n (k-2000))/\(∀ {k i n:Nat} {l:List Nat},rD (1001::k::l) i n=sE n (k-2000))/\(∀ {k x y id:Nat} {l:List Nat},xD (1001::k::x::y::l) id=(x<=id+2000/\id+2000<y)):=by
 have D:∀ {n:Nat} {v:AV},v.under n 1=true->UnderE n v=True:=fun h=>propext ⟨fun _=>trivial,fun _=>⟨1,h⟩⟩
 have J:∀ {n id:Nat} {v:AV},(∀ d,v.under n (d+1)=Nat.blt id n)->UnderE n v=(id<n):=fun {n id v} h=>propext ⟨fun ⟨d,q⟩=>by
  cases d with
  | zero=>simp [AV.under]at q
  | succ d=>rw [h d]at q;simpa using q,fun q=>⟨1,by rw [h 0];simpa using q⟩⟩
 refine ⟨rfl,rfl,rfl,rfl,rfl,rfl,fun h=>propext (yR h),propext yS,fun h=>propext (and_congr_right fun _=>yR h),propext (and_congr_right fun _=>yS),rfl,rfl,rfl,rfl,rfl,rfl,rfl,rfl,rfl,rfl,by simp [gF],by simp [gF],by simp [gF],by simp [gF],rfl,
  rfl,rfl,rfl,rfl,rfl,rfl,rfl,rfl,rfl,rfl,rfl,rfl,rfl,rfl,D rfl,D rfl,D rfl,D rfl,D rfl,D rfl,D rfl,D rfl,J fun _=>rfl,J fun _=>rfl,J fun _=>rfl,?_,?_,?_,?_,?_,?_,rfl,rfl,rfl,rfl,fun h=>by rw [LX,h];rfl,fun {i op} h=>by simp [LX,cJ,tD,h],rfl,rfl,rfl,rfl,rfl,rfl,fun h=>aOw h,rfl,rfl,rfl,rfl,fun {i n k t a l} h=>by have:yL (1000::k::t::a::l) i=true:=List.elem_eq_true_of_mem h;rw [rD,this];rfl,fun {i n k t a l} h=>by have:yL (1000::k::t::a::l) i=false:=(Bool.eq_false_iff.2 fun S=>h (List.mem_of_elem_eq_true S));rw [rD,this];rfl,fun h=>aUx h,propext Nat.lt_min,fun {a b c}=>propext ⟨fun h=>by have I:min a b<=c:=h;omega,fun h=>h.elim (Nat.le_trans (Nat.min_le_left _ _)) (Nat.le_trans (Nat.min_le_right _ _))⟩,rfl,rfl,by simp,rfl,?_,?_,?_,?_,rfl,rfl,rfl,rfl,rfl,rfl,rfl,rfl,rfl,rfl,true_or _,or_true _,false_or _,or_false _,rfl,rfl,rfl,aUy,aRd,aBq,rfl,rfl,fun h=>by simp [LX,cJ,tD,h],rfl,rfl,rfl⟩
 ·intro n l
  refine propext ⟨fun ⟨d,q⟩=>hH.2 fun x G=>?_,fun h=>iP (hH.1 h)⟩
  cases d with
  | zero=>simp [AV.under]at q
  | succ d=>exact ⟨d,List.all_eq_true.1 q x G⟩
 ·intro n l
  refine propext ⟨fun ⟨d,q⟩=>hH.2 fun x G=>?_,fun h=>LW (hH.1 h)⟩
  cases d with
  | zero=>simp [AV.under]at q
  | succ d=>exact ⟨d,List.all_eq_true.1 q x G⟩
 ·intro n f a c
  refine propext ⟨fun ⟨d,q⟩=>?_,fun h=>jB (hH.1 h.1) (hH.1 h.2)⟩
  cases d with
  | zero=>simp [AV.under]at q
  | succ d=>
    simp only [AV.under,Bool.and_eq_true]at q;exact ⟨hH.2 fun x G=>⟨d,List.all_eq_true.1 q.1.2 x G⟩,hH.2 fun x G=>⟨d,List.all_eq_true.1 q.2 x G⟩⟩
 ·intro n v t
  refine propext ⟨fun ⟨d,q⟩=>?_,mD⟩
  cases d with
  | zero=>simp [AV.under]at q
  | succ d=>exact ⟨d,q⟩
 ·intro n v
  refine propext ⟨fun ⟨d,q⟩=>?_,kL⟩
  cases d with
  | zero=>simp [AV.under]at q
  | succ d=>exact ⟨d,q⟩
 ·intro p;exact propext ⟨fun h=>h .empty,fun h _=>h⟩
 ·intro n n0 low u o x h
  refine propext ⟨fun _=>trivial,fun _ id L=>?_⟩;rw [Sto.get_mk (show id<n+1 by omega),Sto.get_mk (show id<n by omega),Tr.get_set_ne _ _ (by omega)]
 ·intro n n0 low u k o x h
  refine propext ⟨fun _=>trivial,fun _ id L=>?_⟩;unfold Sto.get;simp only;rw [Tr.get_set_ne _ _ (show id≠k by omega)]
 ·intro n0 i id l;simp [keptY]
 ·intro n0 i id k j l N
  refine propext ⟨?_,?_⟩
  ·rintro (h | ⟨M,h,I⟩)
   ·exact .inr (.inl h)
   ·rcases List.mem_cons.1 h with e | h
    ·cases e;exact .inl ⟨rfl,I⟩
    ·exact .inr (.inr ⟨M,h,I⟩)
  ·rintro (⟨rfl,h⟩ | h | ⟨M,h,I⟩)
   ·exact .inr ⟨k,List.mem_cons_self ..,h⟩
   ·exact .inl h
   ·exact .inr ⟨M,List.mem_cons_of_mem _ h,I⟩
end
end
end Go.Abs
