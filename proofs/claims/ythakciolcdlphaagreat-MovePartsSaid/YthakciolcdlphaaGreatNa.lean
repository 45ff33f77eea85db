/-
  Programs, worlds and states, in plain words, as they lie in the machine.
-/
import Derived.Test.YthakciolcdlphaaGreatEy
import Derived.Test.YthakciolcdlphaaGreatEp
import Derived.Test.YthakciolcdlphaaGreatEt
import Derived.Test.YthakciolcdlphaaGreatTf
set_option linter.unusedVariables false
set_option linter.unusedSimpArgs false
namespace Go.Abs
noncomputable section
theorem wS:type_of% (And.intro @ne_eq.{1} (And.intro @if_true.{1} (And.intro @if_true.{0} (And.intro @if_false.{1} (And.intro @if_false.{0} (And.intro @aMx (And.intro @wgu (And.intro @vD (And.intro @vE (And.intro @Bool.false_and (And.intro @Bool.true_and (And.intro @Bool.and_false (And.intro @Bool.and_true (And.intro @decide_true (@decide_false))))))))))))))):=And.intro @ne_eq.{1} (And.intro @if_true.{1} (And.intro @if_true.{0} (And.intro @if_false.{1} (And.intro @if_false.{0} (And.intro @aMx (And.intro @wgu (And.intro @vD (And.intro @vE (And.intro @Bool.false_and (And.intro @Bool.true_and (And.intro @Bool.and_false (And.intro @Bool.and_true (And.intro @decide_true (@decide_false))))))))))))))
theorem wT:type_of% (And.intro @if_true.{1} (And.intro @if_true.{0} (And.intro @if_false.{1} (And.intro @if_false.{0} (And.intro @decide_true (And.intro @decide_false (And.intro @Bool.false_and (And.intro @Bool.true_and (And.intro @Bool.and_false (And.intro @Bool.and_true (And.intro @Bool.not_true (And.intro @Bool.not_false (And.intro @Bool.or_false (And.intro @Bool.false_or (And.intro @Bool.true_or (And.intro @Bool.or_true (And.intro @List.getD_cons_zero.{0} (@List.getD_cons_succ.{0})))))))))))))))))):=And.intro @if_true.{1} (And.intro @if_true.{0} (And.intro @if_false.{1} (And.intro @if_false.{0} (And.intro @decide_true (And.intro @decide_false (And.intro @Bool.false_and (And.intro @Bool.true_and (And.intro @Bool.and_false (And.intro @Bool.and_true (And.intro @Bool.not_true (And.intro @Bool.not_false (And.intro @Bool.or_false (And.intro @Bool.false_or (And.intro @Bool.true_or (And.intro @Bool.or_true (And.intro @List.getD_cons_zero.{0} (@List.getD_cons_succ.{0})))))))))))))))))
end
end Go.Abs
namespace Go.Proofs.YthakciolcdlphaaGreat
open Go.Abs Go
noncomputable section
set_option maxRecDepth 10000
abbrev fI:=TSl cI
abbrev uS:=T2 cI cI
abbrev kB:=TSl uS
abbrev ZJ:=T3 cI kB kB
abbrev AX:=TSl ZJ
abbrev sW:=T4 cI cI kB AX
abbrev uT:=T2 cI cI
abbrev TWd:=T5 (TSl sW) fI (TSl uT) fI cI
def TPatN:Nat->AV->Prop
 | 0,_=>False
 | d+1,a=>T4 cI cI qG (TSl (TPatN d)) a
def tT (a:AV):Prop:=∃ d,TPatN d a
abbrev dP:=T4 cI cI fI (TSl tT)
abbrev wU:=T2 qG cI
abbrev qB:=TSl wU
abbrev gY:=T4 (TSl dP) fI cI qB
theorem TSl.mono {A B:AV->Prop} (h:∀ a,A a->B a) {a:AV} (ha:TSl A a):TSl B a:=by
 obtain ⟨xs,h1,h2⟩:=ha;exact ⟨xs,h1,fun x hx=>h x (h2 x hx)⟩
theorem TPatN.succ:∀ (d:Nat) (a:AV),TPatN d a->TPatN (d+1) a
 | 0,_,h=>h.elim
 | d+1,_,⟨x,y,z,u,e,h1,h2,h3,h4⟩=>⟨x,y,z,u,e,h1,h2,h3,TSl.mono (TPatN.succ d) h4⟩
theorem TPatN.le {d d':Nat} (hd:d<=d') {a:AV} (h:TPatN d a):TPatN d' a:=by
 induction hd with
 | refl=>exact h
 | step _ ih=>exact TPatN.succ _ _ ih
theorem aR:Tu fI:=iH (AZ tu_int)
theorem tk_val:Tk 2 uS:=tk2 tu_int tu_int
theorem tu_vals:Tu kB:=iH (jE tk_val)
theorem tk_fr:Tk 3 ZJ:=tk3 tu_int tu_vals tu_vals
theorem fC:Tu AX:=iH (jE tk_fr)
theorem tk_ob:Tk 4 sW:=tk4 tu_int tu_int tu_vals fC
theorem nC:Tu (TSl sW):=iH (jE tk_ob)
theorem tk_out:Tk 2 uT:=tk2 tu_int tu_int
theorem jN:Tu (TSl uT):=iH (jE tk_out)
theorem tA:Tk 5 TWd:=tk5 nC aR jN aR tu_int
theorem bZ:∀ d,Tk 4 (TPatN d)
 | 0=>fun _ h=>h.elim
 | d+1=>tk4 tu_int tu_int tu_str (iH (jE (bZ d)))
theorem tk_pat:Tk 4 tT:=fun a ⟨d,h⟩=>bZ d a h
theorem eK:Tu (TSl tT):=iH (jE tk_pat)
theorem tk_node:Tk 4 dP:=tk4 tu_int tu_int aR eK
theorem dW:Tu (TSl dP):=iH (jE tk_node)
theorem tk_con:Tk 2 wU:=tk2 tu_str tu_int
theorem dT:Tu qB:=iH (jE tk_con)
theorem dG:Tk 4 gY:=tk4 dW aR tu_int dT
def inR (n l h:Int):Bool:=decide (l<=n)&&decide (n<=h)
def nZ (n:Int):Bool:=inR n (-1000000000) 1000000000
def jC (nf no:Int) (v:AV):Bool:=
 if (v.fld 0).num=1 then nZ (v.fld 1).num else if (v.fld 0).num=2 then inR (v.fld 1).num 0 1 else if (v.fld 0).num=3 then decide ((v.fld 1).num=0)
 else if (v.fld 0).num=4 then inR (v.fld 1).num 0 (nf-1) else if (v.fld 0).num=5 then inR (v.fld 1).num 0 (no-1) else false
def dX (nf no:Int) (most:Int) (l:List AV):Bool:=decide ((l.length:Int)<=most)&&l.all (jC nf no)
def dQ (n:AV):Int:=
 if (n.fld 0).num∈[6,9,10,11,12,13,18,22] then 2 else if (n.fld 0).num=14 then (n.fld 2).els.length
 else if (n.fld 0).num∈[7,8,16,17,15,19,20,23,24,26] then 1 else 0
def dM (ns:List AV) (n:Int):AV:=ns.getD n.toNat .top
def NQ (ns:List AV) (nf no:Int) (f:AV):Bool:=
 inR (f.fld 0).num 0 ((ns.length:Int)-1)&&dX nf no 30 (f.fld 1).els&&dX nf no (dQ (dM ns (f.fld 0).num)) (f.fld 2).els
def nE (ns:List AV) (nf no:Int) (l:List AV):Bool:=decide (l.length<=40)&&l.all (NQ ns nf no)
def kC (ns:List AV) (f:AV):Bool:=decide (((f.fld 2).els.length:Int)<dQ (dM ns (f.fld 0).num))
def jD (os:List AV) (k:Int):Bool:=inR k 0 ((os.length:Int)-1)&&decide (((os.getD k.toNat .top).fld 0).num=6)
def cV (os:List AV):Nat:=(os.filter fun o=>decide ((o.fld 0).num=6)).length
def wV (o:AV):Bool:=inR (o.fld 0).num 0 3&&nZ (o.fld 1).num
end
end Go.Proofs.YthakciolcdlphaaGreat
/-
 Whether something is so of all elements of a list: the functions that take it as a function.
-/
namespace Go.Abs
noncomputable section
theorem ZK {P:Program} {O:bN} {H:cJ} {c:Code} {nt:Nat} {fn:FuncId} {t0:Tr AV} {s:Sto} {Q:Ex->Env->Prop} (I:Nat->Tr AV->Prop) (m:Nat->Nat) (h0:I 0 t0)
 (hs:∀ i t,I i t->Wk P O H c ⟨nt,none,fn,t,[],s,.no⟩ (BJ (fun i e=>∃ t,e=⟨nt,none,fn,t,[],s,.no⟩/\I i t) m i Q)):Wk P O H (.loop c) ⟨nt,none,fn,t0,[],s,.no⟩ Q:=
 aQ (fun i e=>∃ t,e=⟨nt,none,fn,t,[],s,.no⟩/\I i t) m 0 ⟨_,rfl,h0⟩ fun i e ⟨t,he,h⟩=>by subst he;exact hs i t h
end
end Go.Abs
namespace Go.Proofs.YthakciolcdlphaaGreat
open Go.Abs Go Go.Abs.TryzF
noncomputable section
set_option maxRecDepth 10000
def JB (F:FuncId) (T:AV->Prop):Prop:=∀ {g:FuncId} {first cap:List AV} {D:AV->Prop},(∀ x,D x->T x)->∀ (p:AV->Bool),UnderE 0 (.func (.func g) first cap)->(∀ x,D x->Abs.Returns Tryz.prog g (first++[x]++cap) (.bool (p x)))->∀ {a:AV},TSl D a->Abs.Returns Tryz.prog F [a,.func (.func g) first cap] (.int .i64 (qX p a.els 0))
def JC (F:FuncId) (T:AV->Prop):Prop:=∀ {g:FuncId} {first cap:List AV} {D:AV->Prop},(∀ x,D x->T x)->∀ (p:AV->Bool),UnderE 0 (.func (.func g) first cap)->(∀ x,D x->Abs.Returns Tryz.prog g (first++[x]++cap) (.bool (p x)))->∀ {a:AV},TSl D a->Abs.Returns Tryz.prog F [a,.func (.func g) first cap] (.bool (a.els.any p))
def FY (F:FuncId) (T:AV->Prop):Prop:=∀ {g:FuncId} {first cap:List AV} {D:AV->Prop},(∀ x,D x->T x)->∀ (p:AV->Bool),UnderE 0 (.func (.func g) first cap)->(∀ x,D x->Abs.Returns Tryz.prog g (first++[x]++cap) (.bool (p x)))->∀ {a:AV},TSl D a->Abs.Returns Tryz.prog F [a,.func (.func g) first cap] (.bool (a.els.all p))
def FZ (F:FuncId) (T:AV->Prop):Prop:=∀ {g:FuncId} {first cap:List AV} {D:AV->Prop},(∀ x,D x->T x)->∀ (p:AV->Bool),UnderE 0 (.func (.func g) first cap)->(∀ x,D x->Abs.Returns Tryz.prog g (first++[x]++cap) (.bool (p x)))->∀ x,D x->Abs.Returns Tryz.prog F ([]++[x]++[.pf (.func (.func g) first cap)]) (.bool (!p x))
theorem xX {A B C D p:Prop} (x:A) (y:B) (z:C) (w:D) (h:A->B->C->D->p:=by
 rename_i g first cap D
 intro f1 f2 f3 tk hD p hu h a ha
 obtain ⟨xs,hs,hx⟩:=ha
 have hl:=hs.2
 refine aH (L:=[aAa g first cap D fun x=>.bool (p x)]) (elist_cons (zD h) aG) aN (by kernel_rfl) f1 f2 f3 rfl rfl (aC (rF hs fun x hm=>(tk x (hD x (hx x hm))).1).und (aC hu.und aF)) aT ?_
 rw [hs.els]
 simp +contextual +decide (maxSteps:=1000000) only [↓ wP,wQ,tf,Nat.reduceAdd,wS,reduceCtorEq,hs.len]
 refine ZK (fun i t=>t.val 0=a/\t.val 1=.func (.func g) first cap/\t.val 7=.int .i64 (xs.length:Nat)/\t.val 8=.int .i64 (i:Nat)/\i<=xs.length/\qX p xs 0=qX p (xs.drop i) i) (fun i=>xs.length-i) ⟨by simp +decide only [↓ aA,aE,aB],by simp +decide only [↓ aA,aE,aB],by simp +decide only [↓ aA,aE,aB],by simp +decide only [↓ aA,aE,aB];rfl,Nat.zero_le _,rfl⟩ ?_
 rintro i t ⟨t0,t1,t7,t8,hi,hq⟩
 rcases Nat.lt_or_ge i xs.length with hlt | hge
 ·obtain ⟨x,hDx,hm,hg,hd,hix,hw,hc⟩:=bK (fun x h=>tk.len (hD x h)) hx hl hlt
  rw [hd,qX]at hq
  have hpf:=fun {d:Option AV}=>tk.pf (hD x hDx) (d:=d)
  cases hp:p x with
  | true=>
    rw [hp,if_pos rfl]at hq
    simp +contextual +decide (maxSteps:=1000000) only [↓ wP,wQ,tf,Nat.reduceAdd,wS,reduceCtorEq,t0,t1,t7,t8,hs.idx,hix,hc,hpf,oB hDx,hp,hq]
  | false=>
    rw [hp,if_neg (by decide)]at hq
    simp +contextual +decide (maxSteps:=1000000) only [↓ wP,wQ,tf,Nat.reduceAdd,wS,reduceCtorEq,t0,t1,t7,t8,hs.idx,hix,hc,hpf,oB hDx,hp,hw]
    exact ⟨i+1,by show _-_<_-_;omega,_,rfl,by simp +decide only [↓ aA,aE,aB,t0],by simp +decide only [↓ aA,aE,aB,t1],by simp +decide only [↓ aA,aE,aB,t7],by simp +decide only [↓ aA,aE,aB],hlt,hq⟩
 ·obtain rfl:i=xs.length:=Nat.le_antisymm hi hge
  rw [List.drop_length,qX]at hq
  simp +contextual +decide (maxSteps:=1000000) only [↓ wP,wQ,tf,Nat.reduceAdd,wS,reduceCtorEq,t0,t1,t7,t8,bG,hq]):p:=h x y z w
theorem xY {A B C D E p:Prop} (x:A) (y:B) (z:C) (w:D) (v:E) (h:A->B->C->D->E->p:=by
 rename_i g first cap D
 intro hI f1 f2 f3 tk hD p hu h a ha
 have hx:=hI hD p hu h ha
 obtain ⟨xs,hs,hm⟩:=ha
 refine aH (elist_cons (cZ hx) aG) aN (by kernel_rfl) f1 f2 f3 rfl rfl (aC (rF hs fun x h=>(tk x (hD x (hm x h))).1).und (aC hu.und aF)) aJ ?_
 simp +contextual +decide (maxSteps:=1000000) only [↓ wP,wQ,tf,Nat.reduceAdd,wS,reduceCtorEq,fT]
 rw [BA]):p:=h x y z w v
theorem AY {A B C D p:Prop} (x:A) (y:B) (z:C) (w:D) (h:A->B->C->D->p:=by
 rename_i g first cap D
 intro f1 f2 f3 tk hD p hu h x hDx
 refine aH (elist_cons (zD h) aG) aN (by kernel_rfl) f1 f2 f3 rfl rfl (aC (tk x (hD x hDx)).1.und (aC (jF hu).und aF)) aJ ?_
 have he:=fun {s:Sto}=>oB (g:=g) (first:=first) (cap:=cap) (D:=D) (p:=fun x=>.bool (p x)) (L:=[]) (s:=s) hDx
 obtain ⟨_,cs,rfl,hcl,hca⟩:=tk x (hD x hDx)
 have hz:=Nat.le_of_eq ((Nat.zero_add _).trans hcl.symm)
 simp +contextual +decide (maxSteps:=1000000) only [↓ wP,wQ,tf,Nat.reduceAdd,wS,reduceCtorEq,he,hcl,hca,oA hcl,hz]):p:=h x y z w
theorem ZL {A B C p:Prop} (x:A) (y:B) (z:C) (h:A->B->C->p:=by
 rename_i g first cap D
 intro f1 f2 f3 hD p hu h x hDx
 refine aH (elist_cons (zD h) aG) aN (by kernel_rfl) f1 f2 f3 rfl rfl (aC (tu_int x (hD x hDx)).1.und (aC (jF hu).und aF)) aJ ?_
 have he:=fun {s:Sto}=>oB (g:=g) (first:=first) (cap:=cap) (D:=D) (p:=fun x=>.bool (p x)) (L:=[]) (s:=s) hDx
 have hca:=(tu_int x (hD x hDx)).2
 simp +contextual +decide (maxSteps:=1000000) only [↓ wP,wQ,tf,Nat.reduceAdd,wS,reduceCtorEq,he,hca]):p:=h x y z
section
variable {F C g:FuncId} {first cap:List AV} {a:AV} {r:Bool}
theorem aMt (hua:UnderE 0 a) (hu:UnderE 0 (.func (.func g) first cap)) (hc:Abs.Returns Tryz.prog C [a,.func (.func F) [] [.pf (.func (.func g) first cap)]] (.bool r)):∀ args s,onL (.func (.func F) [] [.ptr 0 0 0]) (fun b=>b=a) (fun s=>s.get 0=some (aU 0 [.func (.func g) first cap])) args s->bH Tryz.prog C args s (.ret (.bool r) none):=fun args s hs=>by
 match args,hs with
 | [b,f],⟨h1,h2,h3⟩=>
   subst h1;subst h2
   exact oY hc lP ⟨.und _ hua.und,kV h3 rfl (by intro x hx;simp at hx;subst hx;exact hu.und),trivial⟩
theorem aMu {s:Sto} (hs:s.get 0=some (aU 0 [.func (.func g) first cap])):orcL [entB C (onL (.func (.func F) [] [.ptr 0 0 0]) (fun b=>b=a) fun s=>s.get 0=some (aU 0 [.func (.func g) first cap])) fun _=>.bool r] C [a,.func (.func F) [] [.ptr 0 0 0]] s=some (.ret (.bool r) none):=gZ ⟨rfl,rfl,hs⟩
end
theorem uU {A B C D E F p:Prop} (x:A) (y:B) (z:C) (w:D) (v:E) (u:F) (h:A->B->C->D->E->F->p:=by
 rename_i g first cap D
 intro hC hN f1 f2 f3 tk hD p hu h a ha
 have hc:=hC (first:=[]) (cap:=[.pf (.func (.func g) first cap)]) hD (fun x=>!p x) (hG (fun _ h=>nomatch h) (by intro x hx;simp at hx;subst hx;exact jF hu)) (hN hD p hu h) ha
 obtain ⟨xs,hs,hm⟩:=ha
 have hua:=rF hs fun x h=>(tk x (hD x (hm x h))).1
 refine aH (L:=[entB _ _ fun _=>.bool (a.els.any fun x=>!p x)]) (elist_cons (entB_ok (aMt hua hu hc)) aG) aN (by kernel_rfl) f1 f2 f3 rfl rfl (aC hua.und (aC hu.und aF)) aJ ?_
 simp +contextual +decide (maxSteps:=1000000) only [↓ wP,wQ,tf,Nat.reduceAdd,wS,reduceCtorEq,aMu,hs.cell]
 rw [<-List.not_all_eq_any_not,Bool.not_not]):p:=h x y z w v u
theorem ZM:JB 377 uS:=xX Tryz.func377 Tryz.ntmps377 Tryz.results377 @tk_val
theorem JD:JC 313 uS:=xY @ZM Tryz.func313 Tryz.ntmps313 Tryz.results313 @tk_val
theorem aFb:JB 385 ZJ:=xX Tryz.func385 Tryz.ntmps385 Tryz.results385 @tk_fr
theorem NR:JC 355 ZJ:=xY @aFb Tryz.func355 Tryz.ntmps355 Tryz.results355 @tk_fr
theorem aFc:JB 312 sW:=xX Tryz.func312 Tryz.ntmps312 Tryz.results312 @tk_ob
theorem NS:JC 228 sW:=xY @aFc Tryz.func228 Tryz.ntmps228 Tryz.results228 @tk_ob
theorem ZN:JB 320 uT:=xX Tryz.func320 Tryz.ntmps320 Tryz.results320 @tk_out
theorem JE:JC 237 uT:=xY @ZN Tryz.func237 Tryz.ntmps237 Tryz.results237 @tk_out
theorem ZO:JB 102 cI:=xX Tryz.func102 Tryz.ntmps102 Tryz.results102 @tu_int
theorem xZ:JC 47 cI:=xY @ZO Tryz.func47 Tryz.ntmps47 Tryz.results47 @tu_int
theorem ZP:JB 371 wU:=xX Tryz.func371 Tryz.ntmps371 Tryz.results371 @tk_con
theorem JF:JC 300 wU:=xY @ZP Tryz.func300 Tryz.ntmps300 Tryz.results300 @tk_con
theorem UB:JB 373 dP:=xX Tryz.func373 Tryz.ntmps373 Tryz.results373 @tk_node
theorem GA:JC 303 dP:=xY @UB Tryz.func303 Tryz.ntmps303 Tryz.results303 @tk_node
theorem ZQ:JB 388 tT:=xX Tryz.func388 Tryz.ntmps388 Tryz.results388 @tk_pat
theorem JG:JC 375 tT:=xY @ZQ Tryz.func375 Tryz.ntmps375 Tryz.results375 @tk_pat
theorem ZR:FZ 301 wU:=AY Tryz.func301 Tryz.ntmps301 Tryz.results301 @tk_con
theorem aFd:FY 219 wU:=uU @JF @ZR Tryz.func219 Tryz.ntmps219 Tryz.results219 @tk_con
theorem UC:FZ 304 dP:=AY Tryz.func304 Tryz.ntmps304 Tryz.results304 @tk_node
theorem ZS:FY 224 dP:=uU @GA @UC Tryz.func224 Tryz.ntmps224 Tryz.results224 @tk_node
theorem ZT:FZ 376 tT:=AY Tryz.func376 Tryz.ntmps376 Tryz.results376 @tk_pat
theorem QU:FY 310 tT:=uU @JG @ZT Tryz.func310 Tryz.ntmps310 Tryz.results310 @tk_pat
theorem ZU:FZ 311 cI:=ZL Tryz.func311 Tryz.ntmps311 Tryz.results311
theorem aFe:FY 226 cI:=uU @xZ @ZU Tryz.func226 Tryz.ntmps226 Tryz.results226 @tu_int
theorem ZV:FZ 314 uS:=AY Tryz.func314 Tryz.ntmps314 Tryz.results314 @tk_val
theorem aFf:FY 230 uS:=uU @JD @ZV Tryz.func230 Tryz.ntmps230 Tryz.results230 @tk_val
theorem aFg:FZ 378 ZJ:=AY Tryz.func378 Tryz.ntmps378 Tryz.results378 @tk_fr
theorem ZW:FY 315 ZJ:=uU @NR @aFg Tryz.func315 Tryz.ntmps315 Tryz.results315 @tk_fr
theorem aFh:FZ 229 sW:=AY Tryz.func229 Tryz.ntmps229 Tryz.results229 @tk_ob
theorem aJm:FY 161 sW:=uU @NS @aFh Tryz.func161 Tryz.ntmps161 Tryz.results161 @tk_ob
theorem ZX:FZ 238 uT:=AY Tryz.func238 Tryz.ntmps238 Tryz.results238 @tk_out
theorem aFi:FY 164 uT:=uU @JE @ZX Tryz.func164 Tryz.ntmps164 Tryz.results164 @tk_out
theorem ZY:FZ 318 cI:=ZL Tryz.func318 Tryz.ntmps318 Tryz.results318
theorem aFj:FY 234 cI:=uU @xZ @ZY Tryz.func234 Tryz.ntmps234 Tryz.results234 @tu_int
end
end Go.Proofs.YthakciolcdlphaaGreat
