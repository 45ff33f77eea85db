/-
  The abstract machine: the walk.
-/
import Derived.Test.YtpmccfnfikkkbaaGreatEe
set_option linter.unusedVariables false
set_option linter.unusedSimpArgs false
namespace Go.Abs
noncomputable section
abbrev dT:=Nat->List Nat × List Nat
def aG:dT:=fun _=>([],[])
def Wk (P:Program) (O:Orc):dT->Code->Env->(Ex->Env->Prop)->Prop
 | _,.skip,e,Q=>Q .normal e
 | _,.label _,e,Q=>Q .normal e
 | H,.region i ops d,e,Q=>match d with
   | false=>Wo P O ops.toList ops.toList e Q
   | true=>P.follows .mixedOrders=true/\sOk (H i).1 (H i).2 ops.toList=true/\Wd P O (H i).1 (H i).2 ops.toList e Q ops.toList 0 [] e
 | H,.seq a b,e,Q=>Wk P O H a e fun ex e'=>match ex with
   | .normal=>Wk P O H b e' Q
   | ex=>Q ex e'
 | H,.cond c x y,e,Q=>(e.eval c=.bool true/\Wk P O H x e Q)∨(e.eval c=.bool false/\Wk P O H y e Q)
 | H,.block id c,e,Q=>Wk P O H c e (fN id Q)
 | _,.loop c,e,Q=>∃ (α:Type) (I:α->Env->Prop) (m:α->Nat) (a:α),I a e/\∀ a e,I a e->∃ H:dT,Wk P O H c e fun ex e'=>match ex with
   | .normal=>∃ h,m h<m a/\I h e'
   | ex=>Q ex e'
 | H,.scope c,e,Q=>Wk P O H c e Q
 | _,.exit id,e,Q=>Q (.exit id) e
 | _,.ret,e,Q=>Q .ret e
 | _,.rangeFunc f ps a b,e,Q=>W P O (.rangeFunc f ps a b) e Q
 | _,_,_,_=>False
section
variable {P:Program} {O:Orc} {H:dT}
theorem Wk.sound:∀ {c:Code} {H:dT} {e:Env} {Q:Ex->Env->Prop},Wk P O H c e Q->W P O c e Q:=by
 intro c
 induction c with
 | skip=>intro H e Q h;exact aPh.2 h
 | label l=>intro H e Q h;exact aKt.2 h
 | region i ops k=>
   intro H e Q h
   cases k with
   | false=>have:=aFe (P:=P) (O:=O) (i:=i) (l:=ops.toList) (e:=e) (Q:=Q);simp only [Array.toArray_toList]at this;exact this.2 h
   | true=>obtain ⟨o,p,C⟩:=h;have:=aPd (P:=P) (O:=O) _ _ (i:=i) o p C;simpa only [Array.toArray_toList] using this
 | seq a b d r=>
   intro H e Q h;refine aSq.2 ((d h).mono fun A e' w=>?_)
   cases A with
   | normal=>exact r w
   | _=>exact w
 | cond q x y u v=>
   intro H e Q h;refine aPg.2 ?_
   rcases h with ⟨o,p⟩ | ⟨o,p⟩
   ·exact .inl ⟨o,u p⟩
   ·exact .inr ⟨o,v p⟩
 | block id a d=>intro H e Q h;exact aKs.2 (d h)
 | loop a d=>
   intro H e Q h;obtain ⟨α,I,m,x,B,E⟩:=h
   exact aPj I m x B fun a e D=>d (E a e D).choose_spec
 | scope a d=>intro H e Q h;exact aKu.2 (d h)
 | exit id=>intro H e Q h;exact aPi.2 h
 | ret=>intro H e Q h;exact aSr.2 h
 | rangeFunc f ps a b=>intro H e Q h;exact h
 | _=>intro H e Q h;exact h.elim
def SK (P:Program) (O:Orc) (H:dT) (b:Code) (Q:Ex->Env->Prop):Ex->Env->Prop:=fun ex e=>match ex with
 | .normal=>Wk P O H b e Q
 | ex=>Q ex e
def pU (P:Program) (O:Orc) (H:dT) (v:AV) (x y:Code) (e:Env) (Q:Ex->Env->Prop):Prop:=(v=.bool true/\Wk P O H x e Q)∨(v=.bool false/\Wk P O H y e Q)
@[congr] theorem aSi {c:Code} {e e':Env} {Q:Ex->Env->Prop} (h:e=e'):Wk P O H c e Q=Wk P O H c e' Q:=by rw [h]
@[congr] theorem aOz {b:Code} {Q:Ex->Env->Prop} {x x':Ex} {e:Env} (h:x=x'):SK P O H b Q x e=SK P O H b Q x' e:=by rw [h]
@[congr] theorem aNg {v v':AV} {x y:Code} {e:Env} {Q:Ex->Env->Prop} (h:v=v'):pU P O H v x y e Q=pU P O H v' x y e Q:=by rw [h]
@[congr] theorem aSj {qs ps:List Nat} {ops rest:List Oper} {e0 e e':Env} {Q:Ex->Env->Prop} {i i':Nat} {N N':List (Nat × Nat)} (h:e=e') (h':i=i') (h'':N=N'):Wd P O qs ps ops e0 Q rest i N e=Wd P O qs ps ops e0 Q rest i' N' e':=by rw [h,h',h'']
@[congr] theorem aPa {dst:Option Tmp} {e:Env} {md:Bool} {n0:Nat} {X:Nat->Prop} {nw:Bool} {i:Nat} {N:List (Nat × Nat)} {next:List (Nat × Nat)->Env->Prop} {pn:AV->Sto->Prop} {r r':ORes} (h:r=r'):vU dst e md n0 X nw i N next pn r=vU dst e md n0 X nw i N next pn r':=by rw [h]
@[congr] theorem aSk {kd kd':Nat} {Y:Nat->Prop} {op:Op} {e:Env} {K:ORes->Prop} (h:kd=kd'):sD P O kd Y op e K=sD P O kd' Y op e K:=by rw [h]
@[congr] theorem aKe {v v':AV} {w:Bool} {kd:Nat} {Y:Nat->Prop} {op:Op} {e:Env} {K:ORes->Prop} (h:v=v'):gL P O v w kd Y op e K=gL P O v' w kd Y op e K:=by rw [h]
@[congr] theorem aNh {kd:Nat} {fv fv':AV} {args args':List AV} {s s':Sto} {K:ORes->Prop} (h:fv=fv') (h':args=args') (h'':s=s'):vG P O kd fv args s K=vG P O kd fv' args' s' K:=by rw [h,h',h'']
@[congr] theorem aPb {F F':Sto->Option CRes} {r r':Option CRes} {t t':Prop} {s:Sto} {K:ORes->Prop} (h:F=F') (h':r=r') (h'':t=t'):GW F r t s K=GW F' r' t' s K:=by rw [h,h',h'']
theorem SL {x y:Code} {e:Env} {Q:Ex->Env->Prop}:pU P O H (.bool true) x y e Q↔Wk P O H x e Q:=by simp [pU]
theorem OE {x y:Code} {e:Env} {Q:Ex->Env->Prop}:pU P O H (.bool false) x y e Q↔Wk P O H y e Q:=by simp [pU]
theorem SM {b:Bool} {x y:Code} {e:Env} {Q:Ex->Env->Prop}:pU P O H (.bool b) x y e Q↔(b=true->Wk P O H x e Q)/\(b=false->Wk P O H y e Q):=by cases b<;>simp [pU]
theorem aKf {c:Operand} {x y:Code} {e:Env} {Q:Ex->Env->Prop}:Wk P O H (.cond c x y) e Q↔pU P O H (e.eval c) x y e Q:=.rfl
theorem ZP {i:Nat} {l:List Oper} {e:Env} {Q:Ex->Env->Prop}:Wk P O H (.region i l.toArray false) e Q↔Wo P O l l e Q:=.rfl
theorem aKg {i:Nat} {l:List Oper} {e:Env} {Q:Ex->Env->Prop}:Wk P O H (.region i l.toArray true) e Q↔P.follows .mixedOrders=true/\sOk (H i).1 (H i).2 l=true/\Wd P O (H i).1 (H i).2 l e Q l 0 [] e:=.rfl
def DZ {α:Type} (I:α->Env->Prop) (m:α->Nat) (a:α) (Q:Ex->Env->Prop):Ex->Env->Prop:=fun ex e=>match ex with
 | .normal=>∃ b,m b<m a/\I b e
 | ex=>Q ex e
theorem aN {α:Type} (I:α->Env->Prop) (m:α->Nat) (a:α) {c:Code} {e:Env} {Q:Ex->Env->Prop} (b:I a e)
 (d:∀ a e,I a e->Wk P O H c e (DZ I m a Q)):Wk P O H (.loop c) e Q:=⟨α,I,m,a,b,fun a e h=>⟨H,d a e h⟩⟩
theorem HX:(∀ {α:Type} {I:α->Env->Prop} {m:α->Nat} {a:α} {Q:Ex->Env->Prop} {i:Nat} {e:Env},DZ I m a Q (.exit i) e=Q (.exit i) e)/\(∀ {α:Type} {I:α->Env->Prop} {m:α->Nat} {a:α} {Q:Ex->Env->Prop} {e:Env},DZ I m a Q .ret e=Q .ret e)/\
 (∀ {α:Type} {I:α->Env->Prop} {m:α->Nat} {a:α} {Q:Ex->Env->Prop} {v:AV} {e:Env},DZ I m a Q (.panic v) e=Q (.panic v) e):=⟨rfl,rfl,rfl⟩
@[congr] theorem aNi {α:Type} {I:α->Env->Prop} {m:α->Nat} {a:α} {Q:Ex->Env->Prop} {x x':Ex} {e:Env} (h:x=x'):DZ I m a Q x e=DZ I m a Q x' e:=by rw [h]
theorem aF {L:List lX} (d:∀ x∈L,dU P x) (H:dT) {f:FuncId} {fn:Func} {c:Code} {N:Nat} {b:List ResultVar} {args:List AV} {v:AV} (a:okFn P f=true) (l:P.funcs[f]?=some fn) (m:fn.ntmps=N) (o:fn.results=b.toArray) (k:fn.body=some c)
 (e:Nat.ble args.length N=true) (p:∀ x∈args,Und 0 x) (q:Und 0 v)
 (h:Wk P (bJ L) H c ⟨N,none,f,Tr.leaf.lay 0 args,[],⟨0,0,.leaf⟩,.no⟩ (jM P b (fun _ r=>r=v) fun _ _=>False)):Returns P f args v:=JX d a l m o k e p q h.sound
theorem dZ {L:List lX} (d:∀ x∈L,dU P x) (H:dT) {f:FuncId} {fn:Func} {c:Code} {N:Nat} {b:List ResultVar} {args:List AV} {v:AV} (a:okFn P f=true) (l:P.funcs[f]?=some fn) (m:fn.ntmps=N) (o:fn.results=b.toArray) (k:fn.body=some c)
 (e:Nat.ble args.length N=true) (p:∀ x∈args,Und 0 x)
 (h:Wk P (bJ L) H c ⟨N,none,f,Tr.leaf.lay 0 args,[],⟨0,0,.leaf⟩,.no⟩ (jM P b (fun S r=>Frz S 0 r v) fun _ _=>False)):Returns P f args v:=GX d a l m o k e p h.sound
end
section
theorem zM:(∀ {P:Program} {O:Orc} {H:dT} {a b:Code} {e:Env} {Q:Ex->Env->Prop},Wk P O H (.seq a b) e Q↔Wk P O H a e (SK P O H b Q))/\
 (∀ {P:Program} {O:Orc} {H:dT} {b:Code} {e:Env} {Q:Ex->Env->Prop},SK P O H b Q .normal e=Wk P O H b e Q)/\
 (∀ {P:Program} {O:Orc} {H:dT} {b:Code} {e:Env} {Q:Ex->Env->Prop},SK P O H b Q .ret e=Q .ret e)/\
 (∀ {P:Program} {O:Orc} {H:dT} {b:Code} {e:Env} {Q:Ex->Env->Prop} {i:Nat},SK P O H b Q (.exit i) e=Q (.exit i) e)/\
 (∀ {P:Program} {O:Orc} {H:dT} {b:Code} {e:Env} {Q:Ex->Env->Prop} {v:AV},SK P O H b Q (.panic v) e=Q (.panic v) e)/\
 (∀ {P:Program} {O:Orc} {H:dT} {i:Nat} {c:Code} {e:Env} {Q:Ex->Env->Prop},Wk P O H (.block i c) e Q↔Wk P O H c e (fN i Q))/\
 (∀ {i:Nat} {e:Env} {Q:Ex->Env->Prop},fN i Q .normal e=Q .normal e)/\
 (∀ {i:Nat} {e:Env} {Q:Ex->Env->Prop},fN i Q .ret e=Q .ret e)/\
 (∀ {i:Nat} {e:Env} {Q:Ex->Env->Prop} {v:AV},fN i Q (.panic v) e=Q (.panic v) e)/\
 (∀ {i:Nat} {e:Env} {Q:Ex->Env->Prop},fN i Q (.exit i) e=Q .normal e)/\
 (∀ {i j:Nat} {e:Env} {Q:Ex->Env->Prop},j≠i->fN i Q (.exit j) e=Q (.exit j) e)/\
 (∀ {P:Program} {O:Orc} {H:dT} {x:Operand} {a b:Code} {e:Env} {Q:Ex->Env->Prop},Wk P O H (.cond x a b) e Q↔pU P O H (e.eval x) a b e Q)/\
 (∀ {P:Program} {O:Orc} {H:dT} {e:Env} {Q:Ex->Env->Prop},Wk P O H .skip e Q↔Q .normal e)/\
 (∀ {P:Program} {O:Orc} {H:dT} {l:Nat} {e:Env} {Q:Ex->Env->Prop},Wk P O H (.label l) e Q↔Q .normal e)/\
 (∀ {P:Program} {O:Orc} {H:dT} {i:Nat} {e:Env} {Q:Ex->Env->Prop},Wk P O H (.exit i) e Q↔Q (.exit i) e)/\
 (∀ {P:Program} {O:Orc} {H:dT} {e:Env} {Q:Ex->Env->Prop},Wk P O H .ret e Q↔Q .ret e)/\
 (∀ {P:Program} {O:Orc} {H:dT} {c:Code} {e:Env} {Q:Ex->Env->Prop},Wk P O H (.scope c) e Q↔Wk P O H c e Q)/\
 (∀ {P:Program} {O:Orc} {H:dT} {i:Nat} {l:List Oper} {e:Env} {Q:Ex->Env->Prop},Wk P O H (.region i l.toArray false) e Q↔Wo P O l l e Q)/\
 (∀ {P:Program} {O:Orc} {H:dT} {i:Nat} {l:List Oper} {e:Env} {Q:Ex->Env->Prop},Wk P O H (.region i l.toArray true) e Q↔P.follows .mixedOrders=true/\sOk (H i).1 (H i).2 l=true/\Wd P O (H i).1 (H i).2 l e Q l 0 [] e)/\
 (∀ {P:Program} {O:Orc} {ops:List Oper} {e:Env} {Q:Ex->Env->Prop},Wo P O ops [] e Q↔Q .normal e)/\
 (∀ {P:Program} {O:Orc} {ops:List Oper} {dst:Option Tmp} {op:Op} {ty:TypeId} {pos:String} {after:Array Edge} {rest:List Oper} {e:Env} {Q:Ex->Env->Prop},
   Wo P O ops ({dst:=dst,op:=op,type:=ty,pos:=pos,after:=after,guard:=none}::rest) e Q↔eI P O op e (bW P O ops dst rest e Q))/\
 (∀ {P:Program} {O:Orc} {ops:List Oper} {dst:Option Tmp} {op:Op} {ty:TypeId} {pos:String} {after:Array Edge} {j:Nat} {o:Bool} {rest:List Oper} {e:Env} {Q:Ex->Env->Prop},
   Wo P O ops ({dst:=dst,op:=op,type:=ty,pos:=pos,after:=after,guard:=some (j,o)}::rest) e Q↔
    guardK P O (aAa e.t (HA ops j)) o op ops dst rest e Q)/\
 (∀ {P:Program} {O:Orc} {x:Operand} {e:Env} {K:ORes->Prop},eI P O (.move x) e K↔K (.val (e.eval x)))/\
 (∀ {P:Program} {O:Orc} {x:Operand} {e:Env} {K:ORes->Prop},eI P O (.assign x) e K↔K (.val (e.eval x)))/\
 (∀ {P:Program} {O:Orc} {c a b:Operand} {e:Env} {K:ORes->Prop},eI P O (.pick c a b) e K↔nR (WW (e.eval c) (e.eval a) (e.eval b)) K)/\
 (∀ {P:Program} {O:Orc} {op:BinOp} {ty A:TypeId} {x y:Operand} {e:Env} {K:ORes->Prop},eI P O (.binOp op ty x y A) e K↔nR (abin P op ty x y (e.eval x) (e.eval y)) K)/\
 (∀ {P:Program} {O:Orc} {op:UnOp} {ty:TypeId} {x:Operand} {e:Env} {K:ORes->Prop},eI P O (.unOp op ty x) e K↔nR (aun op (e.eval x)) K)/\
 (∀ {P:Program} {O:Orc} {ty:TypeId} {a:Operand} {e:Env} {K:ORes->Prop},eI P O (.load ty a) e K↔nR (fD P e.s ty (e.eval a)) K)/\
 (∀ {P:Program} {O:Orc} {ty:TypeId} {a x:Operand} {e:Env} {K:ORes->Prop},eI P O (.store ty a x) e K↔MP (mB P e.s ty (e.eval a) (e.eval x)) K)/\
 (∀ {P:Program} {O:Orc} {ty:TypeId} {x:Operand} {lo u w:Option Operand} {e:Env} {K:ORes->Prop},eI P O (.slice ty x lo u w) e K↔nR (fF P ty (e.eval x) (lo.map e.eval) (u.map e.eval) (w.map e.eval)) K)/\
 (∀ {P:Program} {O:Orc} {ty:TypeId} {x:Operand} {f:Nat} {e:Env} {K:ORes->Prop},eI P O (.fieldAddr ty x f) e K↔nR (bS P ty (e.eval x) f) K)/\
 (∀ {P:Program} {O:Orc} {ty:TypeId} {x:Operand} {f:Nat} {e:Env} {K:ORes->Prop},eI P O (.field ty x f) e K↔nR (pM P ty (e.eval x) f) K)/\
 (∀ {P:Program} {O:Orc} {ty:TypeId} {x i:Operand} {e:Env} {K:ORes->Prop},eI P O (.indexAddr ty x i) e K↔nR (bT P ty (e.eval x) (e.eval i)) K)/\
 (∀ {P:Program} {O:Orc} {ty:TypeId} {x i:Operand} {e:Env} {K:ORes->Prop},eI P O (.index ty x i) e K↔nR (rL P ty (e.eval x) (e.eval i)) K)/\
 (∀ {P:Program} {O:Orc} {ty:TypeId} {m k:Operand} {ok:Bool} {e:Env} {K:ORes->Prop},eI P O (.lookup ty m k ok) e K↔nR (alookup P e.s ty (e.eval m) (e.eval k) ok) K)/\
 (∀ {P:Program} {O:Orc} {ty:TypeId} {m k x:Operand} {e:Env} {K:ORes->Prop},eI P O (.mapUpdate ty m k x) e K↔MP (cU P e.s ty (e.eval m) (e.eval k) (e.eval x)) K)/\
 (∀ {P:Program} {O:Orc} {ty:TypeId} {d:Array (Nat × Operand)} {e:Env} {K:ORes->Prop},eI P O (.build ty d) e K↔nR (pL P ty (d.toList.map fun p=>(p.1,e.eval p.2))) K)/\
 (∀ {P:Program} {O:Orc} {q dst:TypeId} {x:Operand} {e:Env} {K:ORes->Prop},eI P O (.convert q dst x) e K↔sE (jF P e.s q dst (e.eval x)) K)/\
 (∀ {P:Program} {O:Orc} {x:Operand} {e:Env} {K:ORes->Prop},eI P O (.nilCheck x) e K↔nR (uM (e.eval x)) K)/\
 (∀ {P:Program} {O:Orc} {f:FuncId} {first cap:Array Operand} {e:Env} {K:ORes->Prop},eI P O (.makeFunc (.func f) first cap) e K↔K (.val (.func (.func f) (first.toList.map e.eval) (cap.toList.map e.eval))))/\
 (∀ {P:Program} {O:Orc} {b:Builtin} {args:Array Operand} {r:Array TypeId} {e:Env} {K:ORes->Prop},eI P O (.call {callee:=.builtin b,args:=args,argTypes:=r}) e K↔sE (abuiltin P e.s b r (args.toList.map e.eval)) K)/\
 (∀ {P:Program} {O:Orc} {ty:TypeId} {e:Env} {K:ORes->Prop},eI P O (.alloc ty) e K↔jX (bB P ty) e.s K)/\
 (∀ {P:Program} {O:Orc} {ty:TypeId} {x:Operand} {e:Env} {K:ORes->Prop},eI P O (.box ty x) e K↔xP (e.eval x) e.s K)/\
 (∀ {P:Program} {O:Orc} {f:Operand} {args:Array Operand} {r:Array TypeId} {e:Env} {K:ORes->Prop},eI P O (.call {callee:=.value f,args:=args,argTypes:=r}) e K↔Wcall P O (e.eval f) (args.toList.map e.eval) e.s (callK e.s K)):=
 ⟨.rfl,rfl,rfl,rfl,rfl,.rfl,GZ,SW,KC,OS,fun h=>ZS h,aKf,.rfl,.rfl,.rfl,.rfl,.rfl,ZP,aKg,aPm,aKw,aFg,aFj,SZ,aFk,aAd,aFl,aFm,aAe,aAf,HB,aAg,HC,aAh,TA,HD,aAi,OV,KG,KH,OX,IC,WX,aFo⟩
theorem aB:(∀ {t:Tr AV} {i:Nat} {a:AV},(t.set i a).val i=a)/\
 (∀ {t:Tr AV} {i j:Nat} {a:AV},j≠i->(t.set i a).val j=t.val j)/\
 (∀ {t:Tr AObj} {i:Nat} {a:AObj},(t.set i a).get i=some a)/\
 (∀ {t:Tr AObj} {i j:Nat} {a:AObj},j≠i->(t.set i a).get j=t.get j)/\
 (∀ {e:Env} {i:Nat},e.eval (.tmp i)=e.t.val i)/\
 (∀ {e:Env} {v:Value},e.eval (.const v)=KU v)/\
 (∀ {e:Env} {f:FuncId},e.eval (.func f)=.func (.func f) [] [])/\
 (∀ {dst:Option Tmp} {op:Op} {ty:TypeId} {pos:String} {after:Array Edge} {g:Option (Nat × Bool)} {l:List Oper},HA ({dst:=dst,op:=op,type:=ty,pos:=pos,after:=after,guard:=g}::l) 0=dst)/\
 (∀ {o:Oper} {l:List Oper} {n:Nat},HA (o::l) (n+1)=HA l n)/\
 (∀ {t:Tr AV} {d:Nat},aAa t (some d)=t.val d)/\(∀ {p:Prop},(true=false->p)=True)/\(∀ {p:Prop},(false=true->p)=True)/\(∀ {p:Prop},(true=true->p)=p)/\(∀ {p:Prop},(false=false->p)=p):=
 ⟨Tr.val_set_same _ _ _,fun h=>Tr.val_set_ne _ _ _ _ h,Tr.get_set_same _ _ _,fun h=>Tr.get_set_ne _ _ h,Env.eval_tmp _ _,rfl,rfl,rfl,rfl,rfl,by simp,by simp,by simp,by simp⟩
theorem pV:(∀ {v:AV} {K:ORes->Prop},nR (some v) K↔K (.val v))/\
 (∀ {s:Sto} {K:ORes->Prop},MP (some s) K↔K (.val' .undef s))/\
 (∀ {r:ORes} {K:ORes->Prop},sE (some r) K↔K r)/\
 (∀ {l:List AV} {C:Sto->AV->Prop} {s:Sto},wJ (some l) C s↔C s (pW l))/\
 (∀ {A:Prop},aK true A↔A)/\
 (∀ {l:List AV} {s:Sto} {K:ORes->Prop},xP (.agg l) s K↔aK (l.all AV.isCell) (K (.val' (.ptr s.n 0 0) (s.push (ob l)))))/\
 (∀ {v:AV} {s:Sto} {K:ORes->Prop},v.isCell=true->(xP v s K↔K (.val' (.ptr s.n 0 0) (s.push (ob [v])))))/\
 (∀ {l:List AV} {s:Sto} {K:ORes->Prop},jX (some (.agg l)) s K↔aK (l.all AV.isCell) (K (.val' (.ptr s.n 0 0) (s.push (ob l)))))/\
 (∀ {v:AV} {s:Sto} {K:ORes->Prop},v.isCell=true->(jX (some v) s K↔K (.val' (.ptr s.n 0 0) (s.push (ob [v])))))/\
 (∀ {P:Program} {O:Orc} {H:dT} {b:Bool} {x y:Code} {e:Env} {Q:Ex->Env->Prop},pU P O H (.bool b) x y e Q↔(b=true->Wk P O H x e Q)/\(b=false->Wk P O H y e Q))/\
 (∀ {P:Program} {O:Orc} {H:dT} {x y:Code} {e:Env} {Q:Ex->Env->Prop},pU P O H (.bool true) x y e Q↔Wk P O H x e Q)/\
 (∀ {P:Program} {O:Orc} {H:dT} {x y:Code} {e:Env} {Q:Ex->Env->Prop},pU P O H (.bool false) x y e Q↔Wk P O H y e Q)/\
 (∀ {P:Program} {O:Orc} {b:Bool} {op:Op} {ops:List Oper} {dst:Option Tmp} {rest:List Oper} {e:Env} {Q:Ex->Env->Prop},guardK P O (.bool b) true op ops dst rest e Q↔(b=true->eI P O op e (bW P O ops dst rest e Q))/\(b=false->bW P O ops dst rest e Q (.val .undef)))/\
 (∀ {P:Program} {O:Orc} {b:Bool} {op:Op} {ops:List Oper} {dst:Option Tmp} {rest:List Oper} {e:Env} {Q:Ex->Env->Prop},guardK P O (.bool b) false op ops dst rest e Q↔(b=false->eI P O op e (bW P O ops dst rest e Q))/\(b=true->bW P O ops dst rest e Q (.val .undef)))/\
 (∀ {P:Program} {O:Orc} {op:Op} {ops:List Oper} {dst:Option Tmp} {rest:List Oper} {e:Env} {Q:Ex->Env->Prop},guardK P O (.bool true) true op ops dst rest e Q↔eI P O op e (bW P O ops dst rest e Q))/\
 (∀ {P:Program} {O:Orc} {op:Op} {ops:List Oper} {dst:Option Tmp} {rest:List Oper} {e:Env} {Q:Ex->Env->Prop},guardK P O (.bool true) false op ops dst rest e Q↔bW P O ops dst rest e Q (.val .undef))/\
 (∀ {P:Program} {O:Orc} {op:Op} {ops:List Oper} {dst:Option Tmp} {rest:List Oper} {e:Env} {Q:Ex->Env->Prop},guardK P O (.bool false) true op ops dst rest e Q↔bW P O ops dst rest e Q (.val .undef))/\
 (∀ {P:Program} {O:Orc} {op:Op} {ops:List Oper} {dst:Option Tmp} {rest:List Oper} {e:Env} {Q:Ex->Env->Prop},guardK P O (.bool false) false op ops dst rest e Q↔eI P O op e (bW P O ops dst rest e Q))/\
 (∀ {P:Program} {O:Orc} {l:List AV} {k:Bool} {op:Op} {ops:List Oper} {dst:Option Tmp} {rest:List Oper} {e:Env} {Q:Ex->Env->Prop},guardK P O (.tuple l) k op ops dst rest e Q↔bW P O ops dst rest e Q (.val .undef))/\
 (∀ {P:Program} {O:Orc} {nt:Nat} {ro:Option Nat} {fn:FuncId} {t:Tr AV} {f:List ADef} {s:Sto} {r:ARec} {ops rest:List Oper} {Q:Ex->Env->Prop} {d:Nat} {v:AV},d<nt->(bW P O ops (some d) rest ⟨nt,ro,fn,t,f,s,r⟩ Q (.val v)↔Wo P O ops rest ⟨nt,ro,fn,t.set d v,f,s,r⟩ Q))/\
 (∀ {P:Program} {O:Orc} {e:Env} {ops rest:List Oper} {Q:Ex->Env->Prop} {v:AV},bW P O ops none rest e Q (.val v)↔Wo P O ops rest e Q)/\
 (∀ {P:Program} {O:Orc} {nt:Nat} {ro:Option Nat} {fn:FuncId} {t:Tr AV} {f:List ADef} {s:Sto} {r:ARec} {ops rest:List Oper} {Q:Ex->Env->Prop} {d:Nat} {v:AV} {a:Sto},d<nt->(bW P O ops (some d) rest ⟨nt,ro,fn,t,f,s,r⟩ Q (.val' v a)↔Wo P O ops rest ⟨nt,ro,fn,t.set d v,f,a,r⟩ Q))/\
 (∀ {P:Program} {O:Orc} {nt:Nat} {ro:Option Nat} {fn:FuncId} {t:Tr AV} {f:List ADef} {s:Sto} {r:ARec} {ops rest:List Oper} {Q:Ex->Env->Prop} {v:AV} {a:Sto},bW P O ops none rest ⟨nt,ro,fn,t,f,s,r⟩ Q (.val' v a)↔Wo P O ops rest ⟨nt,ro,fn,t,f,a,r⟩ Q)/\
 (∀ {P:Program} {O:Orc} {nt:Nat} {ro:Option Nat} {fn:FuncId} {t:Tr AV} {f:List ADef} {s:Sto} {r:ARec} {ops rest:List Oper} {Q:Ex->Env->Prop} {dst:Option Tmp} {v:AV} {a:Sto},bW P O ops dst rest ⟨nt,ro,fn,t,f,s,r⟩ Q (.pan v a)↔Q (.panic v) ⟨nt,ro,fn,t,f,a,r⟩)/\
 (∀ {s:Sto} {K:ORes->Prop} {v:AV},callK s K (.ret v none)=K (.val v))/\
 (∀ {s a:Sto} {K:ORes->Prop} {v:AV},callK s K (.ret v (some a))=K (.val' v a))/\
 (∀ {s:Sto} {K:ORes->Prop} {v:AV},callK s K (.pan v none)=K (.pan v s))/\
 (∀ {s a:Sto} {K:ORes->Prop} {v:AV},callK s K (.pan v (some a))=K (.pan v a))/\
 (∀ {c:CRes} {K:CRes->Prop} {R:Prop},EK (some c) K R=K c)/\
 (∀ {P:Program} {O:Orc} {g:FuncId} {first cap args:List AV} {s:Sto} {K:CRes->Prop},Wcall P O (.func (.func g) first cap) args s K↔EK (O g (first++args++cap) s) K (aFp P O (.func (.func g) first cap) args s K))/\
 (∀ {P:Program} {h:List ResultVar} {C D:Sto->AV->Prop} {nt:Nat} {ro:Option Nat} {fn:FuncId} {t:Tr AV} {s:Sto},jM P h C D .ret ⟨nt,ro,fn,t,[],s,.no⟩↔wJ (aS P ⟨nt,ro,fn,t,[],s,.no⟩ h) C s)/\
 (∀ {P:Program} {h:List ResultVar} {C D:Sto->AV->Prop} {nt:Nat} {ro:Option Nat} {fn:FuncId} {t:Tr AV} {s:Sto},jM P h C D .normal ⟨nt,ro,fn,t,[],s,.no⟩↔wJ (aS P ⟨nt,ro,fn,t,[],s,.no⟩ h) C s)/\
 (∀ {P:Program} {h:List ResultVar} {C D:Sto->AV->Prop} {nt:Nat} {ro:Option Nat} {fn:FuncId} {t:Tr AV} {s:Sto} {v:AV},jM P h C D (.panic v) ⟨nt,ro,fn,t,[],s,.no⟩↔D s v):=
 ⟨OR,aFb,aFc,OK,aKy,aFn,aAj,TB,OY,SM,SL,OE,ZY,ZZ,ZU,ZV,ZW,ZX,KE,aFh,aAb,aAc,SY,aFi,aAk,TC,aAl,TD,aAm,cR,aEp,OL,SQ⟩
theorem bN:(∀ {P:Program} {t:TypeId} {x:Operand} {y:Operand} {k:IntKind} {a:Int} {b:Int},abin P .add t x y (.int k a) (.int k b)=some (.int k (k.wrap (a+b))))/\
 (∀ {P:Program} {t:TypeId} {x:Operand} {y:Operand} {k:IntKind} {a:Int} {b:Int},abin P .sub t x y (.int k a) (.int k b)=some (.int k (k.wrap (a-b))))/\
 (∀ {P:Program} {t:TypeId} {x:Operand} {y:Operand} {k:IntKind} {a:Int} {b:Int},abin P .mul t x y (.int k a) (.int k b)=some (.int k (k.wrap (a*b))))/\
 (∀ {P:Program} {t:TypeId} {x:Operand} {y:Operand} {k:IntKind} {a:Int} {b:Int},b≠0->abin P .quo t x y (.int k a) (.int k b)=some (.int k (k.wrap (a.tdiv b))))/\
 (∀ {P:Program} {t:TypeId} {x:Operand} {y:Operand} {k:IntKind} {a:Int} {b:Int},b≠0->abin P .rem t x y (.int k a) (.int k b)=some (.int k (a.tmod b)))/\
 (∀ {P:Program} {t:TypeId} {x:Operand} {y:Operand} {k:IntKind} {a:Int} {b:Int},abin P .eql t x y (.int k a) (.int k b)=some (.bool (decide (a=b))))/\
 (∀ {P:Program} {t:TypeId} {x:Operand} {y:Operand} {k:IntKind} {a:Int} {b:Int},abin P .neq t x y (.int k a) (.int k b)=some (.bool (!decide (a=b))))/\
 (∀ {P:Program} {t:TypeId} {x:Operand} {y:Operand} {k:IntKind} {a:Int} {b:Int},abin P .lss t x y (.int k a) (.int k b)=some (.bool (decide (a<b))))/\
 (∀ {P:Program} {t:TypeId} {x:Operand} {y:Operand} {k:IntKind} {a:Int} {b:Int},abin P .leq t x y (.int k a) (.int k b)=some (.bool (decide (a<=b))))/\
 (∀ {P:Program} {t:TypeId} {x:Operand} {y:Operand} {k:IntKind} {a:Int} {b:Int},abin P .gtr t x y (.int k a) (.int k b)=some (.bool (decide (b<a))))/\
 (∀ {P:Program} {t:TypeId} {x:Operand} {y:Operand} {k:IntKind} {a:Int} {b:Int},abin P .geq t x y (.int k a) (.int k b)=some (.bool (decide (b<=a))))/\
 (∀ {b:Bool},aun .not (.bool b)=some (.bool !b))/\
 (∀ {k:IntKind} {a:Int},aun .neg (.int k a)=some (.int k (k.wrap (0-a))))/\
 (∀ {l:List AV} {i:Nat},(Tr.leaf.lay 0 l).val i=l[i]?.getD .top)/\
 (∀ {P:Program} {e:Env} {d:Nat} {l:List ResultVar},aS P e (.tmp d::l)=(aS P e l).map (e.t.val d::·))/\
 (∀ {P:Program} {e:Env},aS P e []=some [])/\
 (∀ {v:AV},pW [v]=v)/\
 (∀ {v w:AV} {l:List AV},pW (v::w::l)=.tuple (v::w::l))/\
 (pW []=.tuple [])/\
 (∀ {a b:AV},WW (.bool true) a b=some a)/\
 (∀ {a b:AV},WW (.bool false) a b=some b)/\
 (∀ {k:IntKind} {a:Int},KU (.int k a)=.int k a)/\
 (∀ {b:Bool},KU (.bool b)=.bool b)/\
 (KU (.slice none 0 0)=.nils)/\
 (∀ {b:ByteArray},KU (.string b)=.str (b.data.toList.map (·.toNat))):=
 ⟨aEq,aEr,aEs,aEt,aEu,aEv,aEw,aEx,aEy,aEz,aFa,rfl,aKr,Tr.val_lay _ _,JW,rfl,rfl,rfl,rfl,rfl,rfl,rfl,rfl,rfl,rfl⟩
theorem aZ:(∀ {p:Prop},(True->p)=p)/\(∀ {p:Prop},(False->p)=True)/\(∀ {p:Prop},(p->True)=True)/\(∀ {i:Decidable True},@decide True i=true)/\(∀ {i:Decidable False},@decide False i=false)/\
 (∀ {p:Prop},(True/\p)=p)/\(∀ {p:Prop},(p/\True)=p)/\(∀ {p:Prop},(False/\p)=False)/\(∀ {p:Prop},(p/\False)=False)/\((!true)=false)/\((!false)=true)/\
 (∀ {p:Prop} {i:Decidable p},(@decide p i=true)=p)/\(∀ {p:Prop} {i:Decidable p},(@decide p i=false)=¬p)/\(∀ {b:Bool},((!b)=true)=(b=false))/\(∀ {b:Bool},((!b)=false)=(b=true))/\((¬True)=False)/\((¬False)=True)/\
 (∀ {α:Type} {a:α} {l:List α},(a::l)[0]?=some a)/\(∀ {α:Type} {a:α} {l:List α} {n:Nat},(a::l)[n+1]?=l[n]?)/\(∀ {α:Type} {n:Nat},([]:List α)[n]?=none)/\(∀ {α:Type} {a b:α},(some a).getD b=a)/\(∀ {α:Type} {b:α},(none:Option α).getD b=b)/\(∀ {α β:Type} {f:α->β} {a:α},(some a).map f=some (f a))/\(∀ {α β:Type} {f:α->β},(none:Option α).map f=none)/\
 (∀ {α β:Type} {f:α->β} {a:α} {l:List α},(a::l).map f=f a::l.map f)/\(∀ {α β:Type} {f:α->β},([]:List α).map f=[])/\(∀ {α:Type} {a:α} {l m:List α},(a::l)++m=a::(l++m))/\(∀ {α:Type} {m:List α},[]++m=m)/\(∀ {α:Type} {m:List α},m++[]=m)/\
 (∀ {α:Type} {l:List α},l.toArray.toList=l)/\(∀ {α:Type} {p:α->Bool} {a:α} {l:List α},(a::l).all p=(p a&&l.all p))/\(∀ {α:Type} {p:α->Bool},([]:List α).all p=true)/\(∀ {b:Bool},(true&&b)=b)/\
 (∀ {α:Type} {a:α},(a=a)=True)/\(∀ {α:Type} {a b:α} {l m:List α},(a::l=b::m)=(a=b/\l=m)):=
 ⟨true_implies _,false_implies _,by simp,decide_true _,decide_false _,true_and _,and_true _,false_and _,and_false _,rfl,rfl,decide_eq_true_eq,by simp,by simp,by simp,not_true_eq_false,not_false_eq_true,
  rfl,rfl,rfl,rfl,rfl,rfl,rfl,rfl,rfl,rfl,rfl,List.append_nil _,rfl,rfl,rfl,rfl,eq_self _,by simp⟩
theorem dD:(∀ {k:IntKind} {a:Int},(AV.int k a).isCell=true)/\(∀ {b:Bool},(AV.bool b).isCell=true)/\(∀ {l:List Nat},(AV.str l).isCell=true)/\(AV.nils.isCell=true)/\(AV.nilm.isCell=true)/\(AV.nilp.isCell=true)/\(AV.nilf.isCell=true)/\(AV.nili.isCell=true)/\
 (∀ {l:List AV} {c:Bool},(AV.fz l c).isCell=true)/\(∀ {i g o n:Nat} {c:ACap},(AV.sl i g o n c).isCell=true)/\(∀ {i g o:Nat},(AV.ptr i g o).isCell=true)/\(∀ {v:AV},(AV.pf v).isCell=true)/\(∀ {i:Nat},(AV.map i).isCell=true)/\(∀ {f:Fn} {l m:List AV},(AV.func f l m).isCell=true)/\
 (∀ {cs:List AV},ob cs=aW 0 cs)/\(∀ {n low:Nat} {o:Tr AObj} {x:AObj},(Sto.mk n low o).push x=⟨n+1,low,o.set n x⟩)/\(∀ {n low:Nat} {o:Tr AObj} {i:Nat},i<n->(Sto.mk n low o).get i=o.get i)/\(∀ {n:Nat} {o:Tr AObj} {i:Nat} {x:AObj},(Sto.mk n 0 o).put i x=⟨n,0,o.set i x⟩)/\
 (∀ {g off:Nat} {cs:List AV},ldK (some none) (some (aW g cs)) g off=cs[off]?)/\(∀ {g off k:Nat} {cs:List AV},off+k<=cs.length->ldK (some (some k)) (some (aW g cs)) g off=some (.agg (aM cs off k)))/\
 (∀ {s:Sto} {id g off:Nat} {v:AV} {cs:List AV},v.isCell=true->off<cs.length->stK s (some none) id g off v (some (aW g cs))=some (s.put id (aW g (cs.set off v))))/\
 (∀ {s:Sto} {id g off k:Nat} {vs cs:List AV},vs.length=k->vs.all AV.isCell=true->off+k<=cs.length->stK s (some (some k)) id g off (.agg vs) (some (aW g cs))=some (s.put id (aW g (cL cs off vs))))/\
 (∀ {i g o:Nat},uM (.ptr i g o)=some (.ptr i g o))/\(∀ {v:AV},uM (.pf v)=some (.pf v))/\
 (∀ {α:Type} {a b:α} {l:List α},(a::l).set 0 b=b::l)/\(∀ {α:Type} {a b:α} {l:List α} {n:Nat},(a::l).set (n+1) b=a::l.set n b)/\(∀ {α:Type} {a:α} {l:List α},(a::l).length=l.length+1)/\(∀ {α:Type},([]:List α).length=0)/\
 (∀ {l m:List AV},m.length=l.length->cL l 0 m=m)/\(∀ {f:FuncId} {g:List AV->Option AV} {L:List lX} {args:List AV} {s:Sto},bJ (ent f g::L) f args s=(g args).map fun v=>.ret v none)/\(∀ {f h:FuncId} {g:List AV->Option AV} {L:List lX} {args:List AV} {s:Sto},h≠f->bJ (ent h g::L) f args s=bJ L f args s):=
 ⟨rfl,rfl,rfl,rfl,rfl,rfl,rfl,rfl,rfl,rfl,rfl,rfl,rfl,rfl,rfl,rfl,Sto.get_mk,Sto.put_mk0,aKm,aKn,aKp,aKq,rfl,rfl,rfl,rfl,rfl,rfl,fun h=>SS h,ent_same,sU⟩
end
section
theorem wdr:(∀ {P:Program} {O:Orc} {qs ps:List Nat} {ops:List Oper} {o e:Env} {Q:Ex->Env->Prop} {i:Nat} {N:List (Nat × Nat)},Wd P O qs ps ops o Q [] i N e=Q .normal e)/\
 (∀ {P:Program} {O:Orc} {qs ps:List Nat} {ops:List Oper} {o e:Env} {Q:Ex->Env->Prop} {dst:Option Tmp} {op:Op} {ty:TypeId} {pos:String} {after:Array Edge} {rest:List Oper} {i:Nat} {N:List (Nat × Nat)},
   Wd P O qs ps ops o Q ({dst:=dst,op:=op,type:=ty,pos:=pos,after:=after,guard:=none}::rest) i N e=sD P O (dP qs ps i op) (exY (xD ps) (keptY (rD ps i o.s.n) (cI ops) (bif cQ ps then [] else N) i)) op e (vU dst e (JQ ps i op) (nD ps o.s.n) (xD ps) (dF op) i N (Wd P O qs ps ops o Q rest (i+1)) (JT ops o Q i)))/\
 (∀ {P:Program} {O:Orc} {qs ps:List Nat} {ops:List Oper} {o e:Env} {Q:Ex->Env->Prop} {dst:Option Tmp} {op:Op} {ty:TypeId} {pos:String} {after:Array Edge} {j:Nat} {q:Bool} {rest:List Oper} {i:Nat} {N:List (Nat × Nat)},
   Wd P O qs ps ops o Q ({dst:=dst,op:=op,type:=ty,pos:=pos,after:=after,guard:=some (j,q)}::rest) i N e=gL P O (aAa e.t (HA ops j)) q (dP qs ps i op) (exY (xD ps) (keptY (rD ps i o.s.n) (cI ops) (bif cQ ps then [] else N) i)) op e (vU dst e (JQ ps i op) (nD ps o.s.n) (xD ps) (dF op) i N (Wd P O qs ps ops o Q rest (i+1)) (JT ops o Q i)))/\
 (∀ {P:Program} {O:Orc} {kd:Nat} {Y:Nat->Prop} {ty:TypeId} {a:Operand} {e:Env} {K:ORes->Prop},sD P O kd Y (.load ty a) e K=(eW Y (e.eval a)/\nR (fD P e.s ty (e.eval a)) K))/\
 (∀ {P:Program} {O:Orc} {kd:Nat} {Y:Nat->Prop} {ty:TypeId} {m k:Operand} {ok:Bool} {e:Env} {K:ORes->Prop},sD P O kd Y (.lookup ty m k ok) e K=(eW Y (e.eval m)/\nR (alookup P e.s ty (e.eval m) (e.eval k) ok) K))/\
 (∀ {P:Program} {O:Orc} {kd:Nat} {Y:Nat->Prop} {r dst:TypeId} {x:Operand} {e:Env} {K:ORes->Prop},sD P O kd Y (.convert r dst x) e K=(eW Y (e.eval x)/\sE (jF P e.s r dst (e.eval x)) (vK K)))/\
 (∀ {P:Program} {O:Orc} {kd:Nat} {Y:Nat->Prop} {ty:TypeId} {a x:Operand} {e:Env} {K:ORes->Prop},sD P O kd Y (.store ty a x) e K=((kd=3/\iW e.s.n [e.eval a,e.eval x])/\MP (mB P e.s ty (e.eval a) (e.eval x)) (cK e.s.n K)))/\
 (∀ {P:Program} {O:Orc} {kd:Nat} {Y:Nat->Prop} {ty:TypeId} {m k x:Operand} {e:Env} {K:ORes->Prop},sD P O kd Y (.mapUpdate ty m k x) e K=((kd=3/\iW e.s.n [e.eval m,e.eval k,e.eval x])/\MP (cU P e.s ty (e.eval m) (e.eval k) (e.eval x)) (cK e.s.n K)))/\
 (∀ {P:Program} {O:Orc} {kd:Nat} {Y:Nat->Prop} {ty:TypeId} {e:Env} {K:ORes->Prop},sD P O kd Y (.alloc ty) e K=jX (bB P ty) e.s K)/\
 (∀ {P:Program} {O:Orc} {kd:Nat} {Y:Nat->Prop} {ty:TypeId} {x:Operand} {e:Env} {K:ORes->Prop},sD P O kd Y (.box ty x) e K=(iW e.s.n [e.eval x]/\xP (e.eval x) e.s K))/\
 (∀ {P:Program} {O:Orc} {kd:Nat} {Y:Nat->Prop} {ty:TypeId} {len:Nat} {d:Array (Nat × Operand)} {e:Env} {K:ORes->Prop},sD P O kd Y (.buildSlice ty len d) e K=(iW e.s.n (d.toList.map fun p=>e.eval p.2)/\eI P O (.buildSlice ty len d) e K))/\
 (∀ {P:Program} {O:Orc} {kd:Nat} {Y:Nat->Prop} {ty:TypeId} {l c:Operand} {e:Env} {K:ORes->Prop},sD P O kd Y (.makeSlice ty l c) e K=(iW e.s.n [e.eval l,e.eval c]/\eI P O (.makeSlice ty l c) e K))/\
 (∀ {P:Program} {O:Orc} {kd:Nat} {Y:Nat->Prop} {f:Operand} {args:Array Operand} {b:Array TypeId} {e:Env} {K:ORes->Prop},sD P O kd Y (.call {callee:=.value f,args:=args,argTypes:=b}) e K=vG P O kd (e.eval f) (args.toList.map e.eval) e.s K)/\
 (∀ {P:Program} {O:Orc} {kd:Nat} {Y:Nat->Prop} {args:Array Operand} {b:Array TypeId} {e:Env} {K:ORes->Prop},sD P O kd Y (.call {callee:=.builtin .len,args:=args,argTypes:=b}) e K=(EA Y (args.toList.map e.eval)/\sE (abuiltin P e.s .len b (args.toList.map e.eval)) (vK K)))/\
 (∀ {P:Program} {O:Orc} {kd:Nat} {Y:Nat->Prop} {args:Array Operand} {b:Array TypeId} {e:Env} {K:ORes->Prop},sD P O kd Y (.call {callee:=.builtin .min,args:=args,argTypes:=b}) e K=sE (abuiltin P e.s .min b (args.toList.map e.eval)) (vK K))/\
 (∀ {P:Program} {O:Orc} {kd:Nat} {Y:Nat->Prop} {args:Array Operand} {b:Array TypeId} {e:Env} {K:ORes->Prop},sD P O kd Y (.call {callee:=.builtin .max,args:=args,argTypes:=b}) e K=sE (abuiltin P e.s .max b (args.toList.map e.eval)) (vK K))/\
 (∀ {P:Program} {O:Orc} {kd:Nat} {Y:Nat->Prop} {args:Array Operand} {b:Array TypeId} {e:Env} {K:ORes->Prop},sD P O kd Y (.call {callee:=.builtin .append,args:=args,argTypes:=b}) e K=((kd=3/\iW e.s.n (args.toList.map e.eval))/\sE (abuiltin P e.s .append b (args.toList.map e.eval)) (cF (fun u=>abuiltin P u .append b (args.toList.map e.eval)) Y e.s K)))/\
 (∀ {P:Program} {O:Orc} {kd:Nat} {Y:Nat->Prop} {args:Array Operand} {b:Array TypeId} {e:Env} {K:ORes->Prop},sD P O kd Y (.call {callee:=.builtin .copy,args:=args,argTypes:=b}) e K=((kd=3/\iW e.s.n (args.toList.map e.eval))/\sE (abuiltin P e.s .copy b (args.toList.map e.eval)) (cF (fun u=>abuiltin P u .copy b (args.toList.map e.eval)) Y e.s K)))/\
 (∀ {P:Program} {O:Orc} {kd:Nat} {Y:Nat->Prop} {op:Op} {e:Env} {K:ORes->Prop},fR op=true->sD P O kd Y op e K=eI P O op e K):=
 ⟨rfl,rfl,rfl,rfl,rfl,rfl,rfl,rfl,rfl,rfl,rfl,rfl,rfl,rfl,rfl,rfl,rfl,rfl,fun {_ _ _ _ op _ _} h=>by cases op<;>first | exact propext ⟨fun x=>x.2,fun x=>⟨rfl,x⟩⟩ | (exact Bool.noConfusion h)⟩
theorem aKh:(∀ {F:Sto->Option ORes} {Y:Nat->Prop} {s:Sto} {K:ORes->Prop} {v:AV},cF F Y s K (.val v)=((∀ m,(∀ id,Y id->m.get id=s.get id)->F m=some (.val v))/\K (.val v)))/\(∀ {F:Sto->Option ORes} {Y:Nat->Prop} {s m:Sto} {K:ORes->Prop} {v:AV},cF F Y s K (.val' v m)=(s.n<=m.n/\K (.val' v m)))/\(∀ {F:Sto->Option ORes} {Y:Nat->Prop} {s m:Sto} {K:ORes->Prop} {v:AV},cF F Y s K (.pan v m)=(s.n<=m.n/\K (.pan v m)))/\(∀ {n:Nat} {K:ORes->Prop} {v:AV} {s:Sto},cK n K (.val' v s)=(n<=s.n/\K (.val' v s)))/\(∀ {n:Nat} {K:ORes->Prop} {v:AV} {s:Sto},cK n K (.pan v s)=(n<=s.n/\K (.pan v s)))/\(∀ {K:ORes->Prop} {v:AV},vK K (.val v)=K (.val v))/\
 (∀ {nt:Nat} {ro:Option Nat} {fn:FuncId} {t:Tr AV} {A:List ADef} {s:Sto} {r:ARec} {md:Bool} {n0:Nat} {X:Nat->Prop} {nw:Bool} {i:Nat} {N:List (Nat × Nat)} {next:List (Nat × Nat)->Env->Prop} {u:AV->Sto->Prop} {d:Nat} {v:AV},d<nt->vU (some d) ⟨nt,ro,fn,t,A,s,r⟩ md n0 X nw i N next u (.val v)=next N ⟨nt,ro,fn,t.set d v,A,s,r⟩)/\
 (∀ {e:Env} {md:Bool} {n0:Nat} {X:Nat->Prop} {nw:Bool} {i:Nat} {N:List (Nat × Nat)} {next:List (Nat × Nat)->Env->Prop} {u:AV->Sto->Prop} {v:AV},vU none e md n0 X nw i N next u (.val v)=next N e)/\
 (∀ {nt:Nat} {ro:Option Nat} {fn:FuncId} {t:Tr AV} {A:List ADef} {s m:Sto} {r:ARec} {md:Bool} {n0:Nat} {X:Nat->Prop} {nw:Bool} {i:Nat} {N:List (Nat × Nat)} {next:List (Nat × Nat)->Env->Prop} {u:AV->Sto->Prop} {d:Nat} {v:AV},d<nt->vU (some d) ⟨nt,ro,fn,t,A,s,r⟩ md n0 X nw i N next u (.val' v m)=((md=true->qY X n0 s m)/\next (bif nw then (i,s.n)::N else N) ⟨nt,ro,fn,t.set d v,A,m,r⟩))/\
 (∀ {nt:Nat} {ro:Option Nat} {fn:FuncId} {t:Tr AV} {A:List ADef} {s m:Sto} {r:ARec} {md:Bool} {n0:Nat} {X:Nat->Prop} {nw:Bool} {i:Nat} {N:List (Nat × Nat)} {next:List (Nat × Nat)->Env->Prop} {u:AV->Sto->Prop} {v:AV},vU none ⟨nt,ro,fn,t,A,s,r⟩ md n0 X nw i N next u (.val' v m)=((md=true->qY X n0 s m)/\next (bif nw then (i,s.n)::N else N) ⟨nt,ro,fn,t,A,m,r⟩))/\
 (∀ {dst:Option Tmp} {e:Env} {md:Bool} {n0:Nat} {X:Nat->Prop} {nw:Bool} {i:Nat} {N:List (Nat × Nat)} {next:List (Nat × Nat)->Env->Prop} {u:AV->Sto->Prop} {v:AV} {m:Sto},vU dst e md n0 X nw i N next u (.pan v m)=((md=true->qY X n0 e.s m)/\u v m))/\
 (∀ {ops:List Oper} {J:Env} {Q:Ex->Env->Prop} {i:Nat} {v:AV} {s:Sto},JT ops J Q i v s=(kF (cI ops) i ops 0=true/\Q (.panic v) (fT {J with s:=s} ops)))/\
 (∀ {P:Program} {O:Orc} {kd l:Nat} {first cap args:List AV} {s:Sto} {K:ORes->Prop},vG P O kd (.func (.yield l) first cap) args s K=((kd=3/\iW s.n (.func (.yield l) first cap::args))/\Wcall P O (.func (.yield l) first cap) args s (yK s.n K)))/\
 (∀ {P:Program} {O:Orc} {kd:Nat} {g:FuncId} {first cap args:List AV} {s:Sto} {K:ORes->Prop},vG P O kd (.func (.func g) first cap) args s K=GW (O g (first++args++cap)) (O g (first++args++cap) s) (kd=3/\iW s.n (.func (.func g) first cap::args)) s K)/\
 (∀ {F:Sto->Option CRes} {t:Prop} {s:Sto} {K:ORes->Prop} {v:AV},GW F (some (.ret v none)) t s K=((∀ m,F m=some (.ret v none))/\K (.val v)))/\
 (∀ {F:Sto->Option CRes} {t:Prop} {s m:Sto} {K:ORes->Prop} {v:AV},GW F (some (.ret v (some m))) t s K=(t/\s.n<=m.n/\K (.val' v m)))/\
 (∀ {F:Sto->Option CRes} {t:Prop} {s:Sto} {K:ORes->Prop} {v:AV},GW F (some (.pan v none)) t s K=(t/\K (.pan v s)))/\
 (∀ {F:Sto->Option CRes} {t:Prop} {s m:Sto} {K:ORes->Prop} {v:AV},GW F (some (.pan v (some m))) t s K=(t/\s.n<=m.n/\K (.pan v m)))/\
 (∀ {P:Program} {O:Orc} {kd:Nat} {Y:Nat->Prop} {op:Op} {e:Env} {K:ORes->Prop} {b:Bool},gL P O (.bool b) true kd Y op e K=((b=true->sD P O kd Y op e K)/\(b=false->K (.val .undef))))/\(∀ {P:Program} {O:Orc} {kd:Nat} {Y:Nat->Prop} {op:Op} {e:Env} {K:ORes->Prop} {b:Bool},gL P O (.bool b) false kd Y op e K=((b=false->sD P O kd Y op e K)/\(b=true->K (.val .undef))))/\
 (∀ {P:Program} {O:Orc} {kd:Nat} {Y:Nat->Prop} {op:Op} {e:Env} {K:ORes->Prop},gL P O (.bool true) true kd Y op e K=sD P O kd Y op e K)/\(∀ {P:Program} {O:Orc} {kd:Nat} {Y:Nat->Prop} {op:Op} {e:Env} {K:ORes->Prop},gL P O (.bool false) false kd Y op e K=sD P O kd Y op e K)/\
 (∀ {P:Program} {O:Orc} {kd:Nat} {Y:Nat->Prop} {op:Op} {e:Env} {K:ORes->Prop},gL P O (.bool true) false kd Y op e K=K (.val .undef))/\(∀ {P:Program} {O:Orc} {kd:Nat} {Y:Nat->Prop} {op:Op} {e:Env} {K:ORes->Prop},gL P O (.bool false) true kd Y op e K=K (.val .undef))/\
 (∀ {P:Program} {O:Orc} {kd:Nat} {Y:Nat->Prop} {op:Op} {e:Env} {K:ORes->Prop} {l:List AV} {w:Bool},gL P O (.tuple l) w kd Y op e K=K (.val .undef))/\
 (∀ {n:Nat->Prop} {id g o:Nat},eW n (.ptr id g o)=n id)/\(∀ {n:Nat->Prop} {id:Nat},eW n (.map id)=n id)/\(∀ {n:Nat->Prop} {id g o l:Nat} {c:ACap},eW n (.sl id g o l c)=n id)/\(∀ {n:Nat->Prop} {v:AV},eW n (.pf v)=True)/\(∀ {n:Nat->Prop} {l:List AV} {c:Bool},eW n (.fz l c)=True)/\(∀ {n:Nat->Prop} {k:IntKind} {x:Int},eW n (.int k x)=True)/\(∀ {n:Nat->Prop} {l:List Nat},eW n (.str l)=True)/\(∀ {n:Nat->Prop},eW n .nils=True)/\(∀ {n:Nat->Prop},eW n .nilm=True)/\(∀ {n:Nat->Prop} {l:List AV},eW n (.agg l)=True)/\
 (∀ {n:Nat->Prop},EA n []=True)/\(∀ {n:Nat->Prop} {v:AV} {l:List AV},EA n (v::l)=(eW n v/\EA n l))/\(∀ {n:Nat},iW n []=True)/\(∀ {n:Nat} {v:AV} {l:List AV},iW n (v::l)=(UnderE n v/\iW n l))/\
 (∀ {n:Nat} {k:IntKind} {x:Int},UnderE n (.int k x)=True)/\(∀ {n:Nat} {b:Bool},UnderE n (.bool b)=True)/\(∀ {n:Nat} {l:List Nat},UnderE n (.str l)=True)/\(∀ {n:Nat},UnderE n .nils=True)/\(∀ {n:Nat},UnderE n .nilp=True)/\(∀ {n:Nat},UnderE n .nilm=True)/\(∀ {n:Nat},UnderE n .nilf=True)/\(∀ {n:Nat},UnderE n .nili=True)/\
 (∀ {n id g o:Nat},UnderE n (.ptr id g o)=(id<n))/\(∀ {n id:Nat},UnderE n (.map id)=(id<n))/\(∀ {n id g o l:Nat} {c:ACap},UnderE n (.sl id g o l c)=(id<n))/\(∀ {n:Nat} {l:List AV},UnderE n (.agg l)=iW n l)/\(∀ {n:Nat} {l:List AV},UnderE n (.tuple l)=iW n l)/\(∀ {n:Nat} {f:FuncId} {a c:List AV},UnderE n (.func (.func f) a c)=(iW n a/\iW n c))/\(∀ {n:Nat} {v:AV} {t:TypeId},UnderE n (.iface t v)=UnderE n v)/\(∀ {n:Nat} {v:AV},UnderE n (.pf v)=UnderE n v)/\(∀ {p:Prop},(Sto->p)=p)/\
 (∀ {i:Nat} {op:Op},JQ [] i op=false)/\(∀ {i j:Nat} {op:Op},JQ (aG j).2 i op=false)/\(∀ {i:Nat} {op:Op},JQ [1000,0,1000000] i op=(decide (i<1000000)||dF op))/\(∀ {i k t:Nat} {l:List Nat} {op:Op},JQ (1000::k::t::l) i op=(decide (i<t)||dF op))/\(∀ {i:Nat} {l:List Nat} {op:Op},cQ l=false->JQ l i op=false)/\(∀ {i:Nat} {op:Op},i<1000000->JQ [1000] i op=true)/\(∀ {b:Bool},(true||b)=true)/\(∀ {b:Bool},(false||b)=b)/\(∀ {n:Nat},nD [] n=n)/\(∀ {i n:Nat},nD (aG i).2 n=n)/\(∀ {n:Nat},nD [1000] n=n)/\(∀ {n k:Nat} {l:List Nat},nD (1000::k::l) n=JS n (k-2000))/\(∀ {n:Nat} {l:List Nat},cQ l=false->nD l n=n)/\(∀ {i n:Nat},rD [] i n=n)/\(∀ {j i n:Nat},rD (aG j).2 i n=n)/\(∀ {i n:Nat},rD [1000] i n=n)/\(∀ {i n k t:Nat},rD [1000,k,t] i n=JS n (k-2000))/\(∀ {i n k t a:Nat} {l:List Nat},i∈a::l->rD (1000::k::t::a::l) i n=n)/\(∀ {i n k t a:Nat} {l:List Nat},¬ i∈a::l->rD (1000::k::t::a::l) i n=JS n (k-2000))/\(∀ {i n:Nat} {l:List Nat},cQ l=false->rD l i n=n)/\(∀ {a b c:Nat},(c<JS a b)=(c<a/\c<b))/\(∀ {a b c:Nat},(JS a b<=c)=(a<=c∨b<=c))/\(cQ []=false)/\(∀ {i:Nat},cQ (aG i).2=false)/\(∀ {n:Nat},(n<=n)=True)/\(∀ {l:List Nat},cQ (1000::l)=true)/\(∀ {n n0 low low':Nat} {o:Tr AObj} {x:AObj},n0<=n->EB n0 ⟨n,low,o⟩ ⟨n+1,low',o.set n x⟩=True)/\(∀ {n n0 low low' k:Nat} {o:Tr AObj} {x:AObj},n0<=k->EB n0 ⟨n,low,o⟩ ⟨n,low',o.set k x⟩=True)/\
 (∀ {n0 i id:Nat} {l:List Nat},keptY n0 l [] i id=(id<n0))/\(∀ {n0 i id k j:Nat} {l:List Nat} {N:List (Nat × Nat)},keptY n0 l ((k,j)::N) i id=((j=id/\(l.getD i 0).testBit k=true)∨keptY n0 l N i id))/\
 (∀ {t:TypeId},dF (.alloc t)=true)/\(∀ {t:TypeId} {x:Operand},dF (.box t x)=true)/\(∀ {t:TypeId} {n:Nat} {ps:Array (Nat × Operand)},dF (.buildSlice t n ps)=true)/\(∀ {t:TypeId} {x y:Operand},dF (.makeSlice t x y)=true)/\(∀ {t:TypeId} {x:Option Operand},dF (.makeMap t x)=true)/\
 (∀ {t:TypeId} {x y:Operand},dF (.store t x y)=false)/\(∀ {t:TypeId} {x y z:Operand},dF (.mapUpdate t x y z)=false)/\(∀ {c:Call},dF (.call c)=false)/\(∀ {a b:List (Nat × Nat)},(bif true then a else b)=a)/\(∀ {a b:List (Nat × Nat)},(bif false then a else b)=b)/\
 (∀ {p:Prop},(True∨p)=True)/\(∀ {p:Prop},(p∨True)=True)/\(∀ {p:Prop},(False∨p)=p)/\(∀ {p:Prop},(p∨False)=p)/\
 (xD []=noX)/\(∀ {i:Nat},xD (aG i).2=noX)/\(∀ {l:List Nat},xD (1000::l)=noX)/\(∀ {l:List Nat},cQ l=false->xD l=noX)/\(∀ {Y:Nat->Prop},exY noX Y=Y)/\(∀ {n0:Nat} {s m:Sto},qY noX n0 s m=EB n0 s m)/\(∀ {X Y:Nat->Prop} {id:Nat},exY X Y id=(Y id/\¬ X id))/\
 (∀ {l:List Nat},cQ (1001::l)=true)/\(∀ {l:List Nat} {i:Nat} {op:Op},i<1000000->JQ (1001::l) i op=true)/\(∀ {k n:Nat} {l:List Nat},nD (1001::k::l) n=JS n (k-2000))/\(∀ {k i n:Nat} {l:List Nat},rD (1001::k::l) i n=JS n (k-2000))/\(∀ {k x y id:Nat} {l:List Nat},xD (1001::k::x::y::l) id=(x<=id+2000/\id+2000<y)):=by
 have B:∀ {n:Nat} {v:AV},v.under n 1=true->UnderE n v=True:=fun h=>propext ⟨fun _=>trivial,fun _=>⟨1,h⟩⟩
 have E:∀ {n id:Nat} {v:AV},(∀ d,v.under n (d+1)=Nat.blt id n)->UnderE n v=(id<n):=fun {n id v} h=>propext ⟨fun ⟨d,q⟩=>by
  cases d with
  | zero=>simp [AV.under]at q
  | succ d=>rw [h d]at q;simpa using q,fun q=>⟨1,by rw [h 0];simpa using q⟩⟩
 refine ⟨rfl,rfl,rfl,rfl,rfl,rfl,fun h=>propext (xN h),propext xO,fun h=>propext (and_congr_right fun _=>xN h),propext (and_congr_right fun _=>xO),rfl,rfl,rfl,rfl,rfl,rfl,rfl,rfl,rfl,rfl,by simp [gL],by simp [gL],by simp [gL],by simp [gL],rfl,
  rfl,rfl,rfl,rfl,rfl,rfl,rfl,rfl,rfl,rfl,rfl,rfl,rfl,rfl,B rfl,B rfl,B rfl,B rfl,B rfl,B rfl,B rfl,B rfl,E fun _=>rfl,E fun _=>rfl,E fun _=>rfl,?_,?_,?_,?_,?_,?_,rfl,rfl,rfl,rfl,fun h=>by rw [JQ,h];rfl,fun {i op} h=>by simp [JQ,cQ,tD,h],rfl,rfl,rfl,rfl,rfl,rfl,fun h=>aNj h,rfl,rfl,rfl,rfl,fun {i n k t a l} h=>by have:xK (1000::k::t::a::l) i=true:=List.elem_eq_true_of_mem h;rw [rD,this];rfl,fun {i n k t a l} h=>by have:xK (1000::k::t::a::l) i=false:=(Bool.eq_false_iff.2 fun L=>h (List.mem_of_elem_eq_true L));rw [rD,this];rfl,fun h=>aSn h,propext Nat.lt_min,fun {a b c}=>propext ⟨fun h=>by have D:min a b<=c:=h;omega,fun h=>h.elim (Nat.le_trans (Nat.min_le_left _ _)) (Nat.le_trans (Nat.min_le_right _ _))⟩,rfl,rfl,by simp,rfl,?_,?_,?_,?_,rfl,rfl,rfl,rfl,rfl,rfl,rfl,rfl,rfl,rfl,true_or _,or_true _,false_or _,or_false _,rfl,rfl,rfl,aSo,aPc,ZQ,rfl,rfl,fun h=>by simp [JQ,cQ,tD,h],rfl,rfl,rfl⟩
 ·intro n l
  refine propext ⟨fun ⟨d,q⟩=>iF.2 fun x C=>?_,fun h=>dM (iF.1 h)⟩
  cases d with
  | zero=>simp [AV.under]at q
  | succ d=>exact ⟨d,List.all_eq_true.1 q x C⟩
 ·intro n l
  refine propext ⟨fun ⟨d,q⟩=>iF.2 fun x C=>?_,fun h=>JP (iF.1 h)⟩
  cases d with
  | zero=>simp [AV.under]at q
  | succ d=>exact ⟨d,List.all_eq_true.1 q x C⟩
 ·intro n f a c
  refine propext ⟨fun ⟨d,q⟩=>?_,fun h=>jE (iF.1 h.1) (iF.1 h.2)⟩
  cases d with
  | zero=>simp [AV.under]at q
  | succ d=>
    simp only [AV.under,Bool.and_eq_true]at q;exact ⟨iF.2 fun x C=>⟨d,List.all_eq_true.1 q.1.2 x C⟩,iF.2 fun x C=>⟨d,List.all_eq_true.1 q.2 x C⟩⟩
 ·intro n v t
  refine propext ⟨fun ⟨d,q⟩=>?_,mO⟩
  cases d with
  | zero=>simp [AV.under]at q
  | succ d=>exact ⟨d,q⟩
 ·intro n v
  refine propext ⟨fun ⟨d,q⟩=>?_,kX⟩
  cases d with
  | zero=>simp [AV.under]at q
  | succ d=>exact ⟨d,q⟩
 ·intro p;exact propext ⟨fun h=>h .empty,fun h _=>h⟩
 ·intro n n0 low low' o x h
  refine propext ⟨fun _=>trivial,fun _ id G=>?_⟩;rw [Sto.get_mk (show id<n+1 by omega),Sto.get_mk (show id<n by omega),Tr.get_set_ne _ _ (by omega)]
 ·intro n n0 low low' k o x h
  refine propext ⟨fun _=>trivial,fun _ id G=>?_⟩;unfold Sto.get;simp only;rw [Tr.get_set_ne _ _ (show id≠k by omega)]
 ·intro n0 i id l;simp [keptY]
 ·intro n0 i id k j l N
  refine propext ⟨?_,?_⟩
  ·rintro (h | ⟨I,h,D⟩)
   ·exact .inr (.inl h)
   ·rcases List.mem_cons.1 h with e | h
    ·cases e;exact .inl ⟨rfl,D⟩
    ·exact .inr (.inr ⟨I,h,D⟩)
  ·rintro (⟨rfl,h⟩ | h | ⟨I,h,D⟩)
   ·exact .inr ⟨k,List.mem_cons_self ..,h⟩
   ·exact .inl h
   ·exact .inr ⟨I,List.mem_cons_of_mem _ h,D⟩
end
end
end Go.Abs
