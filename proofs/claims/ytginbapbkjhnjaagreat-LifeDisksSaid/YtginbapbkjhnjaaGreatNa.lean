/-
  Programs, worlds and states, in plain words, as they lie in the machine.
-/
import Derived.Test.YtginbapbkjhnjaaGreatEy
import Derived.Test.YtginbapbkjhnjaaGreatEp
import Derived.Test.YtginbapbkjhnjaaGreatEt
import Derived.Test.YtginbapbkjhnjaaGreatTf
set_option linter.unusedVariables false
set_option linter.unusedSimpArgs false
namespace Go.Abs
noncomputable section
theorem wS:type_of% (And.intro @ne_eq.{1} (And.intro @if_true.{1} (And.intro @if_true.{0} (And.intro @if_false.{1} (And.intro @if_false.{0} (And.intro @YA (And.intro @wgu (And.intro @oO (And.intro @oP (And.intro @Bool.false_and (And.intro @Bool.true_and (And.intro @Bool.and_false (And.intro @Bool.and_true (And.intro @decide_true (@decide_false))))))))))))))):=And.intro @ne_eq.{1} (And.intro @if_true.{1} (And.intro @if_true.{0} (And.intro @if_false.{1} (And.intro @if_false.{0} (And.intro @YA (And.intro @wgu (And.intro @oO (And.intro @oP (And.intro @Bool.false_and (And.intro @Bool.true_and (And.intro @Bool.and_false (And.intro @Bool.and_true (And.intro @decide_true (@decide_false))))))))))))))
end
end Go.Abs
namespace Go.Proofs.YtginbapbkjhnjaaGreat
open Go.Abs Go
noncomputable section
set_option maxRecDepth 10000
abbrev gB:=TSl dM
abbrev XQ:=T2 dM dM
abbrev yC:=TSl XQ
abbrev ZX:=T3 dM yC yC
abbrev UU:=TSl ZX
abbrev PB:=T4 dM dM yC UU
abbrev GO:=T2 dM dM
abbrev ZY:=T5 (TSl PB) gB (TSl GO) gB dM
def TPatN:Nat->AV->Prop
 | 0,_=>False
 | d+1,a=>T4 dM dM lA (TSl (TPatN d)) a
def UV (a:AV):Prop:=∃ d,TPatN d a
abbrev yD:=T4 dM dM gB (TSl UV)
abbrev XR:=T2 lA dM
abbrev EQ:=TSl XR
abbrev LK:=T4 (TSl yD) gB dM EQ
theorem TSl.mono {A B:AV->Prop} (h:∀ a,A a->B a) {a:AV} (ha:TSl A a):TSl B a:=by
 obtain ⟨xs,h1,h2⟩:=ha;exact ⟨xs,h1,fun x hx=>h x (h2 x hx)⟩
theorem TPatN.succ:∀ (d:Nat) (a:AV),TPatN d a->TPatN (d+1) a
 | 0,_,h=>h.elim
 | d+1,_,⟨x,y,z,u,e,h1,h2,h3,h4⟩=>⟨x,y,z,u,e,h1,h2,h3,TSl.mono (TPatN.succ d) h4⟩
theorem TPatN.le {d d':Nat} (hd:d<=d') {a:AV} (h:TPatN d a):TPatN d' a:=by
 induction hd with
 | refl=>exact h
 | step _ ih=>exact TPatN.succ _ _ ih
theorem bI:Tu gB:=iO (vO tu_int)
theorem UW:Tk 2 XQ:=tk2 tu_int tu_int
theorem rA:Tu yC:=iO (iZ UW)
theorem XS:Tk 3 ZX:=tk3 tu_int rA rA
theorem UX:Tu UU:=iO (iZ XS)
theorem XT:Tk 4 PB:=XZ tu_int tu_int rA UX
theorem pN:Tu (TSl PB):=iO (iZ XT)
theorem UY:Tk 2 GO:=tk2 tu_int tu_int
theorem mJ:Tu (TSl GO):=iO (iZ UY)
theorem XU:Tk 5 ZY:=tk5 pN bI mJ bI tu_int
theorem ET:∀ d,Tk 4 (TPatN d)
 | 0=>fun _ h=>h.elim
 | d+1=>XZ tu_int tu_int tu_str (iO (iZ (ET d)))
theorem UZ:Tk 4 UV:=fun a ⟨d,h⟩=>ET d a h
theorem QH:Tu (TSl UV):=iO (iZ UZ)
theorem QI:Tk 4 yD:=XZ tu_int tu_int bI QH
theorem oE:Tu (TSl yD):=iO (iZ QI)
theorem VA:Tk 2 XR:=tk2 tu_str tu_int
theorem rB:Tu EQ:=iO (iZ VA)
theorem EU:Tk 4 LK:=XZ oE bI tu_int rB
def inR (n l h:Int):Bool:=decide (l<=n)&&decide (n<=h)
def ZZ (n:Int):Bool:=inR n (-1000000000) 1000000000
def aAa (nf no:Int) (v:AV):Bool:=
 if (v.fld 0).num=1 then ZZ (v.fld 1).num else if (v.fld 0).num=2 then inR (v.fld 1).num 0 1 else if (v.fld 0).num=3 then decide ((v.fld 1).num=0)
 else if (v.fld 0).num=4 then inR (v.fld 1).num 0 (nf-1) else if (v.fld 0).num=5 then inR (v.fld 1).num 0 (no-1) else false
def LM (nf no:Int) (most:Int) (l:List AV):Bool:=decide ((l.length:Int)<=most)&&l.all (aAa nf no)
def SW (n:AV):Int:=
 if (n.fld 0).num∈[6,9,10,11,12,13,18,22] then 2 else if (n.fld 0).num=14 then (n.fld 2).els.length
 else if (n.fld 0).num∈[7,8,16,17,15,19,20,23,24,26] then 1 else 0
def LN (ns:List AV) (n:Int):AV:=ns.getD n.toNat .top
def frR (ns:List AV) (nf no:Int) (f:AV):Bool:=
 inR (f.fld 0).num 0 ((ns.length:Int)-1)&&LM nf no 30 (f.fld 1).els&&LM nf no (SW (LN ns (f.fld 0).num)) (f.fld 2).els
def aAb (ns:List AV) (nf no:Int) (l:List AV):Bool:=decide (l.length<=40)&&l.all (frR ns nf no)
def XV (ns:List AV) (f:AV):Bool:=decide (((f.fld 2).els.length:Int)<SW (LN ns (f.fld 0).num))
end
end Go.Proofs.YtginbapbkjhnjaaGreat
/-
 Whether something is so of all elements of a list: the functions that take it as a function.
-/
namespace Go.Abs
noncomputable section
theorem LP {P:Program} {O:Orc} {H:cG} {c:Code} {nt:Nat} {fn:FuncId} {t0:Tr AV} {s:Sto} {Q:Ex->Env->Prop} (I:Nat->Tr AV->Prop) (m:Nat->Nat) (h0:I 0 t0)
 (hs:∀ i t,I i t->Wk P O H c ⟨nt,none,fn,t,[],s,.no⟩ (sH (fun i e=>∃ t,e=⟨nt,none,fn,t,[],s,.no⟩/\I i t) m i Q)):Wk P O H (.loop c) ⟨nt,none,fn,t0,[],s,.no⟩ Q:=
 bS (fun i e=>∃ t,e=⟨nt,none,fn,t,[],s,.no⟩/\I i t) m 0 ⟨_,rfl,h0⟩ fun i e ⟨t,he,h⟩=>by subst he;exact hs i t h
end
end Go.Abs
namespace Go.Proofs.YtginbapbkjhnjaaGreat
open Go.Abs Go Go.Abs.TryzF
noncomputable section
set_option maxRecDepth 10000
def LQ (F:FuncId) (T:AV->Prop):Prop:=∀ {g:FuncId} {first cap:List AV} {D:AV->Prop},(∀ x,D x->T x)->∀ (p:AV->Bool),UnderE 0 (.func (.func g) first cap)->(∀ x,D x->Abs.Returns Tryz.prog g (first++[x]++cap) (.bool (p x)))->∀ {a:AV},TSl D a->Abs.Returns Tryz.prog F [a,.func (.func g) first cap] (.int .i64 (tP p a.els 0))
def LR (F:FuncId) (T:AV->Prop):Prop:=∀ {g:FuncId} {first cap:List AV} {D:AV->Prop},(∀ x,D x->T x)->∀ (p:AV->Bool),UnderE 0 (.func (.func g) first cap)->(∀ x,D x->Abs.Returns Tryz.prog g (first++[x]++cap) (.bool (p x)))->∀ {a:AV},TSl D a->Abs.Returns Tryz.prog F [a,.func (.func g) first cap] (.bool (a.els.any p))
def LS (F:FuncId) (T:AV->Prop):Prop:=∀ {g:FuncId} {first cap:List AV} {D:AV->Prop},(∀ x,D x->T x)->∀ (p:AV->Bool),UnderE 0 (.func (.func g) first cap)->(∀ x,D x->Abs.Returns Tryz.prog g (first++[x]++cap) (.bool (p x)))->∀ {a:AV},TSl D a->Abs.Returns Tryz.prog F [a,.func (.func g) first cap] (.bool (a.els.all p))
def LU (F:FuncId) (T:AV->Prop):Prop:=∀ {g:FuncId} {first cap:List AV} {D:AV->Prop},(∀ x,D x->T x)->∀ (p:AV->Bool),UnderE 0 (.func (.func g) first cap)->(∀ x,D x->Abs.Returns Tryz.prog g (first++[x]++cap) (.bool (p x)))->∀ x,D x->Abs.Returns Tryz.prog F ([]++[x]++[.pf (.func (.func g) first cap)]) (.bool (!p x))
theorem yE {A B C D p:Prop} (x:A) (y:B) (z:C) (w:D) (h:A->B->C->D->p:=by
 rename_i g first cap D
 intro f1 f2 f3 tk hD p hu h a ha
 obtain ⟨xs,hs,hx⟩:=ha
 have hl:=hs.2
 refine aW (L:=[VE g first cap D fun x=>.bool (p x)]) (aF (rC h) aP) aZ (by kernel_rfl) f1 f2 f3 rfl rfl (aB (wA hs fun x hm=>(tk x (hD x (hx x hm))).1).und (aB hu.und aI)) dD ?_
 rw [hs.els]
 simp +contextual +decide (maxSteps:=1000000) only [↓ wP,wQ,tf,Nat.reduceAdd,wS,reduceCtorEq,hs.len]
 refine LP (fun i t=>t.val 0=a/\t.val 1=.func (.func g) first cap/\t.val 7=.int .i64 (xs.length:Nat)/\t.val 8=.int .i64 (i:Nat)/\i<=xs.length/\tP p xs 0=tP p (xs.drop i) i) (fun i=>xs.length-i) ⟨by simp +decide only [↓ aC,aG,aD],by simp +decide only [↓ aC,aG,aD],by simp +decide only [↓ aC,aG,aD],by simp +decide only [↓ aC,aG,aD];rfl,Nat.zero_le _,rfl⟩ ?_
 rintro i t ⟨t0,t1,t7,t8,hi,hq⟩
 rcases Nat.lt_or_ge i xs.length with hlt | hge
 ·obtain ⟨x,hDx,hm,hg,hd,hix,hw,hc⟩:=dO (fun x h=>tk.len (hD x h)) hx hl hlt
  rw [hd,tP]at hq
  have hpf:=fun {d:Option AV}=>tk.pf (hD x hDx) (d:=d)
  cases hp:p x with
  | true=>
    rw [hp,if_pos rfl]at hq
    simp +contextual +decide (maxSteps:=1000000) only [↓ wP,wQ,tf,Nat.reduceAdd,wS,reduceCtorEq,t0,t1,t7,t8,hs.idx,hix,hc,hpf,jM hDx,hp,hq]
  | false=>
    rw [hp,if_neg (by decide)]at hq
    simp +contextual +decide (maxSteps:=1000000) only [↓ wP,wQ,tf,Nat.reduceAdd,wS,reduceCtorEq,t0,t1,t7,t8,hs.idx,hix,hc,hpf,jM hDx,hp,hw]
    exact ⟨i+1,by show _-_<_-_;omega,_,rfl,by simp +decide only [↓ aC,aG,aD,t0],by simp +decide only [↓ aC,aG,aD,t1],by simp +decide only [↓ aC,aG,aD,t7],by simp +decide only [↓ aC,aG,aD],hlt,hq⟩
 ·obtain rfl:i=xs.length:=Nat.le_antisymm hi hge
  rw [List.drop_length,tP]at hq
  simp +contextual +decide (maxSteps:=1000000) only [↓ wP,wQ,tf,Nat.reduceAdd,wS,reduceCtorEq,t0,t1,t7,t8,pO,hq]):p:=h x y z w
theorem yF {A B C D E p:Prop} (x:A) (y:B) (z:C) (w:D) (v:E) (h:A->B->C->D->E->p:=by
 rename_i g first cap D
 intro hI f1 f2 f3 tk hD p hu h a ha
 have hx:=hI hD p hu h ha
 obtain ⟨xs,hs,hm⟩:=ha
 refine aW (aF (gO hx) aP) aZ (by kernel_rfl) f1 f2 f3 rfl rfl (aB (wA hs fun x h=>(tk x (hD x (hm x h))).1).und (aB hu.und aI)) bF ?_
 simp +contextual +decide (maxSteps:=1000000) only [↓ wP,wQ,tf,Nat.reduceAdd,wS,reduceCtorEq,gV]
 rw [yL]):p:=h x y z w v
theorem SX {A B C D p:Prop} (x:A) (y:B) (z:C) (w:D) (h:A->B->C->D->p:=by
 rename_i g first cap D
 intro f1 f2 f3 tk hD p hu h x hDx
 refine aW (aF (rC h) aP) aZ (by kernel_rfl) f1 f2 f3 rfl rfl (aB (tk x (hD x hDx)).1.und (aB (gX hu).und aI)) bF ?_
 have he:=fun {s:Sto}=>jM (g:=g) (first:=first) (cap:=cap) (D:=D) (p:=fun x=>.bool (p x)) (L:=[]) (s:=s) hDx
 obtain ⟨_,cs,rfl,hcl,hca⟩:=tk x (hD x hDx)
 have hz:=Nat.le_of_eq ((Nat.zero_add _).trans hcl.symm)
 simp +contextual +decide (maxSteps:=1000000) only [↓ wP,wQ,tf,Nat.reduceAdd,wS,reduceCtorEq,he,hcl,hca,oF hcl,hz]):p:=h x y z w
theorem VB {A B C p:Prop} (x:A) (y:B) (z:C) (h:A->B->C->p:=by
 rename_i g first cap D
 intro f1 f2 f3 hD p hu h x hDx
 refine aW (aF (rC h) aP) aZ (by kernel_rfl) f1 f2 f3 rfl rfl (aB (tu_int x (hD x hDx)).1.und (aB (gX hu).und aI)) bF ?_
 have he:=fun {s:Sto}=>jM (g:=g) (first:=first) (cap:=cap) (D:=D) (p:=fun x=>.bool (p x)) (L:=[]) (s:=s) hDx
 have hca:=(tu_int x (hD x hDx)).2
 simp +contextual +decide (maxSteps:=1000000) only [↓ wP,wQ,tf,Nat.reduceAdd,wS,reduceCtorEq,he,hca]):p:=h x y z
section
variable {F C g:FuncId} {first cap:List AV} {a:AV} {r:Bool}
theorem XW (hua:UnderE 0 a) (hu:UnderE 0 (.func (.func g) first cap)) (hc:Abs.Returns Tryz.prog C [a,.func (.func F) [] [.pf (.func (.func g) first cap)]] (.bool r)):∀ args s,onL (.func (.func F) [] [.ptr 0 0 0]) (fun b=>b=a) (fun s=>s.get 0=some (aT 0 [.func (.func g) first cap])) args s->cA Tryz.prog C args s (.ret (.bool r) none):=fun args s hs=>by
 match args,hs with
 | [b,f],⟨h1,h2,h3⟩=>
   subst h1;subst h2
   exact EV hc yI ⟨.und _ hua.und,vN h3 rfl (by intro x hx;simp at hx;subst hx;exact hu.und),trivial⟩
theorem XX {s:Sto} (hs:s.get 0=some (aT 0 [.func (.func g) first cap])):bR [GQ C (onL (.func (.func F) [] [.ptr 0 0 0]) (fun b=>b=a) fun s=>s.get 0=some (aT 0 [.func (.func g) first cap])) fun _=>.bool r] C [a,.func (.func F) [] [.ptr 0 0 0]] s=some (.ret (.bool r) none):=GS ⟨rfl,rfl,hs⟩
end
theorem yG {A B C D E F p:Prop} (x:A) (y:B) (z:C) (w:D) (v:E) (u:F) (h:A->B->C->D->E->F->p:=by
 rename_i g first cap D
 intro hC hN f1 f2 f3 tk hD p hu h a ha
 have hc:=hC (first:=[]) (cap:=[.pf (.func (.func g) first cap)]) hD (fun x=>!p x) (lQ (fun _ h=>nomatch h) (by intro x hx;simp at hx;subst hx;exact gX hu)) (hN hD p hu h) ha
 obtain ⟨xs,hs,hm⟩:=ha
 have hua:=wA hs fun x h=>(tk x (hD x (hm x h))).1
 refine aW (L:=[GQ _ _ fun _=>.bool (a.els.any fun x=>!p x)]) (aF (QM (XW hua hu hc)) aP) aZ (by kernel_rfl) f1 f2 f3 rfl rfl (aB hua.und (aB hu.und aI)) bF ?_
 simp +contextual +decide (maxSteps:=1000000) only [↓ wP,wQ,tf,Nat.reduceAdd,wS,reduceCtorEq,XX,hs.cell]
 rw [<-List.not_all_eq_any_not,Bool.not_not]):p:=h x y z w v u
theorem LV:LQ 133 dM:=yE Tryz.func133 Tryz.ntmps133 Tryz.results133 @tu_int
theorem yH:LR 78 dM:=yF @LV Tryz.func78 Tryz.ntmps78 Tryz.results78 @tu_int
end
end Go.Proofs.YtginbapbkjhnjaaGreat
