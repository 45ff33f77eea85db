/-
  Programs, worlds and states, in plain words, as they lie in the machine.
-/
import Derived.Test.YtpmccfnfikkkbaaGreatEy
import Derived.Test.YtpmccfnfikkkbaaGreatEp
import Derived.Test.YtpmccfnfikkkbaaGreatEt
import Derived.Test.YtpmccfnfikkkbaaGreatTf
set_option linter.unusedVariables false
set_option linter.unusedSimpArgs false
namespace Go.Abs
noncomputable section
theorem wS:type_of% (And.intro @ne_eq.{1} (And.intro @if_true.{1} (And.intro @if_true.{0} (And.intro @if_false.{1} (And.intro @if_false.{0} (And.intro @aUd (And.intro @wgu (And.intro @xM (And.intro @jV (And.intro @Bool.false_and (And.intro @Bool.true_and (And.intro @Bool.and_false (And.intro @Bool.and_true (And.intro @decide_true (@decide_false))))))))))))))):=And.intro @ne_eq.{1} (And.intro @if_true.{1} (And.intro @if_true.{0} (And.intro @if_false.{1} (And.intro @if_false.{0} (And.intro @aUd (And.intro @wgu (And.intro @xM (And.intro @jV (And.intro @Bool.false_and (And.intro @Bool.true_and (And.intro @Bool.and_false (And.intro @Bool.and_true (And.intro @decide_true (@decide_false))))))))))))))
theorem wT:type_of% (And.intro @if_true.{1} (And.intro @if_true.{0} (And.intro @if_false.{1} (And.intro @if_false.{0} (And.intro @decide_true (And.intro @decide_false (And.intro @Bool.false_and (And.intro @Bool.true_and (And.intro @Bool.and_false (And.intro @Bool.and_true (And.intro @Bool.not_true (And.intro @Bool.not_false (And.intro @Bool.or_false (And.intro @Bool.false_or (And.intro @Bool.true_or (And.intro @Bool.or_true (And.intro @List.getD_cons_zero.{0} (@List.getD_cons_succ.{0})))))))))))))))))):=And.intro @if_true.{1} (And.intro @if_true.{0} (And.intro @if_false.{1} (And.intro @if_false.{0} (And.intro @decide_true (And.intro @decide_false (And.intro @Bool.false_and (And.intro @Bool.true_and (And.intro @Bool.and_false (And.intro @Bool.and_true (And.intro @Bool.not_true (And.intro @Bool.not_false (And.intro @Bool.or_false (And.intro @Bool.false_or (And.intro @Bool.true_or (And.intro @Bool.or_true (And.intro @List.getD_cons_zero.{0} (@List.getD_cons_succ.{0})))))))))))))))))
end
end Go.Abs
namespace Go.Proofs.YtpmccfnfikkkbaaGreat
open Go.Abs Go
noncomputable section
set_option maxRecDepth 10000
abbrev kP:=TSl dO
abbrev yW:=T2 dO dO
abbrev jL:=TSl yW
abbrev TFr:=T3 dO jL jL
abbrev BR:=TSl TFr
abbrev CO:=T4 dO dO jL BR
abbrev wG:=T2 dO dO
abbrev BS:=T5 (TSl CO) kP (TSl wG) kP dO
def TPatN:Nat->AV->Prop
 | 0,_=>False
 | d+1,a=>T4 dO dO sC (TSl (TPatN d)) a
def wH (a:AV):Prop:=∃ d,TPatN d a
abbrev eY:=T4 dO dO kP (TSl wH)
abbrev wI:=T2 sC dO
abbrev sA:=TSl wI
abbrev gQ:=T4 (TSl eY) kP dO sA
theorem TSl.mono {A B:AV->Prop} (h:∀ a,A a->B a) {a:AV} (d:TSl A a):TSl B a:=by
 obtain ⟨xs,b,c⟩:=d;exact ⟨xs,b,fun x e=>h x (c x e)⟩
theorem TPatN.succ:∀ (d:Nat) (a:AV),TPatN d a->TPatN (d+1) a
 | 0,_,h=>h.elim
 | d+1,_,⟨x,y,z,u,e,b,c,f,k⟩=>⟨x,y,z,u,e,b,c,f,TSl.mono (TPatN.succ d) k⟩
theorem TPatN.le {d b:Nat} (c:d<=b) {a:AV} (h:TPatN d a):TPatN b a:=by
 induction c with
 | refl=>exact h
 | step _ e=>exact TPatN.succ _ _ e
theorem aV:Tu kP:=gW (AG tu_int)
theorem tk_val:Tk 2 yW:=tk2 tu_int tu_int
theorem bI:Tu jL:=gW (iZ tk_val)
theorem tk_fr:Tk 3 TFr:=tk3 tu_int bI bI
theorem lE:Tu BR:=gW (iZ tk_fr)
theorem tk_ob:Tk 4 CO:=tk4 tu_int tu_int bI lE
theorem mI:Tu (TSl CO):=gW (iZ tk_ob)
theorem tk_out:Tk 2 wG:=tk2 tu_int tu_int
theorem kK:Tu (TSl wG):=gW (iZ tk_out)
theorem tk_wd:Tk 5 BS:=tk5 mI aV kK aV tu_int
theorem cJ:∀ d,Tk 4 (TPatN d)
 | 0=>fun _ h=>h.elim
 | d+1=>tk4 tu_int tu_int tu_str (gW (iZ (cJ d)))
theorem tk_pat:Tk 4 wH:=fun a ⟨d,h⟩=>cJ d a h
theorem fY:Tu (TSl wH):=gW (iZ tk_pat)
theorem tk_node:Tk 4 eY:=tk4 tu_int tu_int aV fY
theorem dR:Tu (TSl eY):=gW (iZ tk_node)
theorem tk_con:Tk 2 wI:=tk2 tu_str tu_int
theorem dW:Tu sA:=gW (iZ tk_con)
theorem dX:Tk 4 gQ:=tk4 dR aV tu_int dW
def inR (n l h:Int):Bool:=decide (l<=n)&&decide (n<=h)
def qK (n:Int):Bool:=inR n (-1000000000) 1000000000
def pP (b no:Int) (v:AV):Bool:=
 if (v.fld 0).num=1 then qK (v.fld 1).num else if (v.fld 0).num=2 then inR (v.fld 1).num 0 1 else if (v.fld 0).num=3 then decide ((v.fld 1).num=0)
 else if (v.fld 0).num=4 then inR (v.fld 1).num 0 (b-1) else if (v.fld 0).num=5 then inR (v.fld 1).num 0 (no-1) else false
def fL (c no:Int) (b:Int) (l:List AV):Bool:=decide ((l.length:Int)<=b)&&l.all (pP c no)
def eZ (n:AV):Int:=
 if (n.fld 0).num∈[6,9,10,11,12,13,18,22] then 2 else if (n.fld 0).num=14 then (n.fld 2).els.length
 else if (n.fld 0).num∈[7,8,16,17,15,19,20,23,24,26] then 1 else 0
def eV (ns:List AV) (n:Int):AV:=ns.getD n.toNat .top
def frR (ns:List AV) (b no:Int) (f:AV):Bool:=
 inR (f.fld 0).num 0 ((ns.length:Int)-1)&&fL b no 30 (f.fld 1).els&&fL b no (eZ (eV ns (f.fld 0).num)) (f.fld 2).els
def qL (ns:List AV) (b no:Int) (l:List AV):Bool:=decide (l.length<=40)&&l.all (frR ns b no)
def lW (ns:List AV) (f:AV):Bool:=decide (((f.fld 2).els.length:Int)<eZ (eV ns (f.fld 0).num))
def mJ (os:List AV) (k:Int):Bool:=inR k 0 ((os.length:Int)-1)&&decide (((os.getD k.toNat .top).fld 0).num=6)
def dN (os:List AV):Nat:=(os.filter fun o=>decide ((o.fld 0).num=6)).length
def AF (o:AV):Bool:=inR (o.fld 0).num 0 3&&qK (o.fld 1).num
end
end Go.Proofs.YtpmccfnfikkkbaaGreat
/-
 Whether something is so of all elements of a list: the functions that take it as a function.
-/
namespace Go.Abs
noncomputable section
theorem aIe {P:Program} {O:Orc} {H:dT} {c:Code} {nt:Nat} {fn:FuncId} {b:Tr AV} {s:Sto} {Q:Ex->Env->Prop} (I:Nat->Tr AV->Prop) (m:Nat->Nat) (d:I 0 b)
 (k:∀ i t,I i t->Wk P O H c ⟨nt,none,fn,t,[],s,.no⟩ (DZ (fun i e=>∃ t,e=⟨nt,none,fn,t,[],s,.no⟩/\I i t) m i Q)):Wk P O H (.loop c) ⟨nt,none,fn,b,[],s,.no⟩ Q:=
 aN (fun i e=>∃ t,e=⟨nt,none,fn,t,[],s,.no⟩/\I i t) m 0 ⟨_,rfl,d⟩ fun i e ⟨t,f,h⟩=>by subst f;exact k i t h
end
end Go.Abs
namespace Go.Proofs.YtpmccfnfikkkbaaGreat
open Go.Abs Go Go.Abs.TryzF
noncomputable section
set_option maxRecDepth 10000
def QO (F:FuncId) (T:AV->Prop):Prop:=∀ {g:FuncId} {first cap:List AV} {D:AV->Prop},(∀ x,D x->T x)->∀ (p:AV->Bool),UnderE 0 (.func (.func g) first cap)->(∀ x,D x->Abs.Returns Tryz.prog g (first++[x]++cap) (.bool (p x)))->∀ {a:AV},TSl D a->Abs.Returns Tryz.prog F [a,.func (.func g) first cap] (.int .i64 (tX p a.els 0))
def QP (F:FuncId) (T:AV->Prop):Prop:=∀ {g:FuncId} {first cap:List AV} {D:AV->Prop},(∀ x,D x->T x)->∀ (p:AV->Bool),UnderE 0 (.func (.func g) first cap)->(∀ x,D x->Abs.Returns Tryz.prog g (first++[x]++cap) (.bool (p x)))->∀ {a:AV},TSl D a->Abs.Returns Tryz.prog F [a,.func (.func g) first cap] (.bool (a.els.any p))
def MG (F:FuncId) (T:AV->Prop):Prop:=∀ {g:FuncId} {first cap:List AV} {D:AV->Prop},(∀ x,D x->T x)->∀ (p:AV->Bool),UnderE 0 (.func (.func g) first cap)->(∀ x,D x->Abs.Returns Tryz.prog g (first++[x]++cap) (.bool (p x)))->∀ {a:AV},TSl D a->Abs.Returns Tryz.prog F [a,.func (.func g) first cap] (.bool (a.els.all p))
def MH (F:FuncId) (T:AV->Prop):Prop:=∀ {g:FuncId} {first cap:List AV} {D:AV->Prop},(∀ x,D x->T x)->∀ (p:AV->Bool),UnderE 0 (.func (.func g) first cap)->(∀ x,D x->Abs.Returns Tryz.prog g (first++[x]++cap) (.bool (p x)))->∀ x,D x->Abs.Returns Tryz.prog F ([]++[x]++[.pf (.func (.func g) first cap)]) (.bool (!p x))
theorem BE {A B C D p:Prop} (x:A) (y:B) (z:C) (w:D) (h:A->B->C->D->p:=by
 rename_i g first cap D
 intro N O P H v p U h a Q;obtain ⟨xs,e,M⟩:=Q;have T:=e.2;refine aF (L:=[VU g first cap D fun x=>.bool (p x)]) (elist_cons (yY h) aE) aG (by kernel_rfl) N O P rfl rfl (aA (lZ e fun x J=>(H x (v x (M x J))).1).und (aA U.und aD)) aO ?_;rw [e.els];simp +contextual +decide (maxSteps:=1000000) only [↓ wP,wQ,tf,Nat.reduceAdd,wS,reduceCtorEq,e.len];refine aIe (fun i t=>t.val 0=a/\t.val 1=.func (.func g) first cap/\t.val 7=.int .i64 (xs.length:Nat)/\t.val 8=.int .i64 (i:Nat)/\i<=xs.length/\tX p xs 0=tX p (xs.drop i) i) (fun i=>xs.length-i) ⟨by simp +decide only [↓ aB,bN,aZ],by simp +decide only [↓ aB,bN,aZ],by simp +decide only [↓ aB,bN,aZ],by simp +decide only [↓ aB,bN,aZ];rfl,Nat.zero_le _,rfl⟩ ?_;rintro i t ⟨o,q,u,G,S,c⟩
 rcases Nat.lt_or_ge i xs.length with k | E
 ·obtain ⟨x,b,J,X,R,f,V,I⟩:=cO (fun x h=>H.len (v x h)) M T k
  rw [R,tX]at c
  have l:=fun {d:Option AV}=>H.pf (v x b) (d:=d)
  cases m:p x with
  | true=>
    rw [m,if_pos rfl]at c;simp +contextual +decide (maxSteps:=1000000) only [↓ wP,wQ,tf,Nat.reduceAdd,wS,reduceCtorEq,o,q,u,G,e.idx,f,I,l,nF b,m,c]
  | false=>
    rw [m,if_neg (by decide)]at c;simp +contextual +decide (maxSteps:=1000000) only [↓ wP,wQ,tf,Nat.reduceAdd,wS,reduceCtorEq,o,q,u,G,e.idx,f,I,l,nF b,m,V];exact ⟨i+1,by show _-_<_-_;omega,_,rfl,by simp +decide only [↓ aB,bN,aZ,o],by simp +decide only [↓ aB,bN,aZ,q],by simp +decide only [↓ aB,bN,aZ,u],by simp +decide only [↓ aB,bN,aZ],k,c⟩
 ·obtain rfl:i=xs.length:=Nat.le_antisymm S E
  rw [List.drop_length,tX]at c
  simp +contextual +decide (maxSteps:=1000000) only [↓ wP,wQ,tf,Nat.reduceAdd,wS,reduceCtorEq,o,q,u,G,bP,c]):p:=h x y z w
theorem BF {A B C D E p:Prop} (x:A) (y:B) (z:C) (w:D) (v:E) (h:A->B->C->D->E->p:=by
 rename_i g first cap D
 intro l e f k u b p d h a c;have q:=l b p d h c;obtain ⟨xs,o,m⟩:=c;refine aF (elist_cons (lF q) aE) aG (by kernel_rfl) e f k rfl rfl (aA (lZ o fun x h=>(u x (b x (m x h))).1).und (aA d.und aD)) aI ?_;simp +contextual +decide (maxSteps:=1000000) only [↓ wP,wQ,tf,Nat.reduceAdd,wS,reduceCtorEq,kV]
 rw [GJ]):p:=h x y z w v
theorem GI {A B C D p:Prop} (x:A) (y:B) (z:C) (w:D) (h:A->B->C->D->p:=by
 rename_i g first cap D
 intro k l m f e p q h x b;refine aF (elist_cons (yY h) aE) aG (by kernel_rfl) k l m rfl rfl (aA (f x (e x b)).1.und (aA (kX q).und aD)) aI ?_
 have o:=fun {s:Sto}=>nF (g:=g) (first:=first) (cap:=cap) (D:=D) (p:=fun x=>.bool (p x)) (L:=[]) (s:=s) b
 obtain ⟨_,cs,rfl,c,d⟩:=f x (e x b);have u:=Nat.le_of_eq ((Nat.zero_add _).trans c.symm)
 simp +contextual +decide (maxSteps:=1000000) only [↓ wP,wQ,tf,Nat.reduceAdd,wS,reduceCtorEq,o,c,d,eR c,u]):p:=h x y z w
theorem aIf {A B C p:Prop} (x:A) (y:B) (z:C) (h:A->B->C->p:=by
 rename_i g first cap D
 intro e f k d p m h x b;refine aF (elist_cons (yY h) aE) aG (by kernel_rfl) e f k rfl rfl (aA (tu_int x (d x b)).1.und (aA (kX m).und aD)) aI ?_
 have l:=fun {s:Sto}=>nF (g:=g) (first:=first) (cap:=cap) (D:=D) (p:=fun x=>.bool (p x)) (L:=[]) (s:=s) b
 have c:=(tu_int x (d x b)).2
 simp +contextual +decide (maxSteps:=1000000) only [↓ wP,wQ,tf,Nat.reduceAdd,wS,reduceCtorEq,l,c]):p:=h x y z
section
variable {F C g:FuncId} {first cap:List AV} {a:AV} {r:Bool}
theorem aUa (c:UnderE 0 a) (o:UnderE 0 (.func (.func g) first cap)) (l:Abs.Returns Tryz.prog C [a,.func (.func F) [] [.pf (.func (.func g) first cap)]] (.bool r)):∀ args s,onL (.func (.func F) [] [.ptr 0 0 0]) (fun b=>b=a) (fun s=>s.get 0=some (aW 0 [.func (.func g) first cap])) args s->dE Tryz.prog C args s (.ret (.bool r) none):=fun args s m=>by
 match args,m with
 | [b,f],⟨e,h,k⟩=>
   subst e;subst h;exact vD l oF ⟨.und _ c.und,rU k rfl (by intro x d;simp at d;subst d;exact o.und),trivial⟩
theorem aUb {s:Sto} (c:s.get 0=some (aW 0 [.func (.func g) first cap])):bJ [entB C (onL (.func (.func F) [] [.ptr 0 0 0]) (fun b=>b=a) fun s=>s.get 0=some (aW 0 [.func (.func g) first cap])) fun _=>.bool r] C [a,.func (.func F) [] [.ptr 0 0 0]] s=some (.ret (.bool r) none):=fJ ⟨rfl,rfl,c⟩
end
theorem yX {A B C D E F p:Prop} (x:A) (y:B) (z:C) (w:D) (v:E) (u:F) (h:A->B->C->D->E->F->p:=by
 rename_i g first cap D
 intro q G l m o J d p c h a e;have H:=q (first:=[]) (cap:=[.pf (.func (.func g) first cap)]) d (fun x=>!p x) (jE (fun _ h=>nomatch h) (by intro x k;simp at k;subst k;exact kX c)) (G d p c h) e;obtain ⟨xs,f,I⟩:=e
 have b:=lZ f fun x h=>(J x (d x (I x h))).1
 refine aF (L:=[entB _ _ fun _=>.bool (a.els.any fun x=>!p x)]) (elist_cons (entB_ok (aUa b c H)) aE) aG (by kernel_rfl) l m o rfl rfl (aA b.und (aA c.und aD)) aI ?_;simp +contextual +decide (maxSteps:=1000000) only [↓ wP,wQ,tf,Nat.reduceAdd,wS,reduceCtorEq,aUb,f.cell]
 rw [<-List.not_all_eq_any_not,Bool.not_not]):p:=h x y z w v u
theorem aIg:QO 316 yW:=BE Tryz.func316 Tryz.ntmps316 Tryz.results316 @tk_val
theorem QQ:QP 264 yW:=BF @aIg Tryz.func264 Tryz.ntmps264 Tryz.results264 @tk_val
theorem aMi:QO 317 TFr:=BE Tryz.func317 Tryz.ntmps317 Tryz.results317 @tk_fr
theorem VS:QP 266 TFr:=BF @aMi Tryz.func266 Tryz.ntmps266 Tryz.results266 @tk_fr
theorem aMj:QO 268 CO:=BE Tryz.func268 Tryz.ntmps268 Tryz.results268 @tk_ob
theorem VT:QP 206 CO:=BF @aMj Tryz.func206 Tryz.ntmps206 Tryz.results206 @tk_ob
theorem aIh:QO 270 wG:=BE Tryz.func270 Tryz.ntmps270 Tryz.results270 @tk_out
theorem QR:QP 210 wG:=BF @aIh Tryz.func210 Tryz.ntmps210 Tryz.results210 @tk_out
theorem aIi:QO 269 dO:=BE Tryz.func269 Tryz.ntmps269 Tryz.results269 @tu_int
theorem BG:QP 208 dO:=BF @aIi Tryz.func208 Tryz.ntmps208 Tryz.results208 @tu_int
theorem aIj:QO 376 wI:=BE Tryz.func376 Tryz.ntmps376 Tryz.results376 @tk_con
theorem QS:QP 329 wI:=BF @aIj Tryz.func329 Tryz.ntmps329 Tryz.results329 @tk_con
theorem aCj:QO 378 eY:=BE Tryz.func378 Tryz.ntmps378 Tryz.results378 @tk_node
theorem MI:QP 332 eY:=BF @aCj Tryz.func332 Tryz.ntmps332 Tryz.results332 @tk_node
theorem aIk:QO 399 wH:=BE Tryz.func399 Tryz.ntmps399 Tryz.results399 @tk_pat
theorem QT:QP 380 wH:=BF @aIk Tryz.func380 Tryz.ntmps380 Tryz.results380 @tk_pat
theorem aIl:MH 330 wI:=GI Tryz.func330 Tryz.ntmps330 Tryz.results330 @tk_con
theorem aMk:MG 283 wI:=yX @QS @aIl Tryz.func283 Tryz.ntmps283 Tryz.results283 @tk_con
theorem aCk:MH 333 eY:=GI Tryz.func333 Tryz.ntmps333 Tryz.results333 @tk_node
theorem aIm:MG 288 eY:=yX @MI @aCk Tryz.func288 Tryz.ntmps288 Tryz.results288 @tk_node
theorem aIn:MH 381 wH:=GI Tryz.func381 Tryz.ntmps381 Tryz.results381 @tk_pat
theorem XY:MG 339 wH:=yX @QT @aIn Tryz.func339 Tryz.ntmps339 Tryz.results339 @tk_pat
theorem aIo:MH 340 dO:=aIf Tryz.func340 Tryz.ntmps340 Tryz.results340
theorem aMl:MG 290 dO:=yX @BG @aIo Tryz.func290 Tryz.ntmps290 Tryz.results290 @tu_int
theorem aIp:MH 341 yW:=GI Tryz.func341 Tryz.ntmps341 Tryz.results341 @tk_val
theorem aMm:MG 293 yW:=yX @QQ @aIp Tryz.func293 Tryz.ntmps293 Tryz.results293 @tk_val
theorem aMn:MH 382 TFr:=GI Tryz.func382 Tryz.ntmps382 Tryz.results382 @tk_fr
theorem aIq:MG 342 TFr:=yX @VS @aMn Tryz.func342 Tryz.ntmps342 Tryz.results342 @tk_fr
theorem aMo:MH 292 CO:=GI Tryz.func292 Tryz.ntmps292 Tryz.results292 @tk_ob
theorem aQy:MG 236 CO:=yX @VT @aMo Tryz.func236 Tryz.ntmps236 Tryz.results236 @tk_ob
theorem aIr:MH 300 wG:=GI Tryz.func300 Tryz.ntmps300 Tryz.results300 @tk_out
theorem aMp:MG 239 wG:=yX @QR @aIr Tryz.func239 Tryz.ntmps239 Tryz.results239 @tk_out
theorem aIs:MH 345 dO:=aIf Tryz.func345 Tryz.ntmps345 Tryz.results345
theorem aMq:MG 297 dO:=yX @BG @aIs Tryz.func297 Tryz.ntmps297 Tryz.results297 @tu_int
end
end Go.Proofs.YtpmccfnfikkkbaaGreat
