/-
  Programs, worlds and states, in plain words, as they lie in the machine.
-/
import Derived.Test.YtifmdaalhclhgaaGreatEy
import Derived.Test.YtifmdaalhclhgaaGreatEp
import Derived.Test.YtifmdaalhclhgaaGreatEt
import Derived.Test.YtifmdaalhclhgaaGreatTf
set_option linter.unusedVariables false
set_option linter.unusedSimpArgs false
namespace Go.Abs
noncomputable section
theorem wS:type_of% (And.intro @ne_eq.{1} (And.intro @if_true.{1} (And.intro @if_true.{0} (And.intro @if_false.{1} (And.intro @if_false.{0} (And.intro @aLm (And.intro @wgu (And.intro @vC (And.intro @vD (And.intro @Bool.false_and (And.intro @Bool.true_and (And.intro @Bool.and_false (And.intro @Bool.and_true (And.intro @decide_true (@decide_false))))))))))))))):=And.intro @ne_eq.{1} (And.intro @if_true.{1} (And.intro @if_true.{0} (And.intro @if_false.{1} (And.intro @if_false.{0} (And.intro @aLm (And.intro @wgu (And.intro @vC (And.intro @vD (And.intro @Bool.false_and (And.intro @Bool.true_and (And.intro @Bool.and_false (And.intro @Bool.and_true (And.intro @decide_true (@decide_false))))))))))))))
theorem wT:type_of% (And.intro @if_true.{1} (And.intro @if_true.{0} (And.intro @if_false.{1} (And.intro @if_false.{0} (And.intro @decide_true (And.intro @decide_false (And.intro @Bool.false_and (And.intro @Bool.true_and (And.intro @Bool.and_false (And.intro @Bool.and_true (And.intro @Bool.not_true (And.intro @Bool.not_false (And.intro @Bool.or_false (And.intro @Bool.false_or (And.intro @Bool.true_or (And.intro @Bool.or_true (And.intro @List.getD_cons_zero.{0} (@List.getD_cons_succ.{0})))))))))))))))))):=And.intro @if_true.{1} (And.intro @if_true.{0} (And.intro @if_false.{1} (And.intro @if_false.{0} (And.intro @decide_true (And.intro @decide_false (And.intro @Bool.false_and (And.intro @Bool.true_and (And.intro @Bool.and_false (And.intro @Bool.and_true (And.intro @Bool.not_true (And.intro @Bool.not_false (And.intro @Bool.or_false (And.intro @Bool.false_or (And.intro @Bool.true_or (And.intro @Bool.or_true (And.intro @List.getD_cons_zero.{0} (@List.getD_cons_succ.{0})))))))))))))))))
end
end Go.Abs
namespace Go.Proofs.YtifmdaalhclhgaaGreat
open Go.Abs Go
noncomputable section
set_option maxRecDepth 10000
abbrev eU:=TSl cM
abbrev wK:=T2 cM cM
abbrev fY:=TSl wK
abbrev QC:=T3 cM fY fY
abbrev tL:=TSl QC
abbrev nC:=T4 cM cM fY tL
abbrev lB:=T2 cM cM
abbrev oT:=T5 (TSl nC) eU (TSl lB) eU cM
def TPatN:Nat->AV->Prop
 | 0,_=>False
 | d+1,a=>T4 cM cM pY (TSl (TPatN d)) a
def tM (a:AV):Prop:=∃ d,TPatN d a
abbrev eF:=T4 cM cM eU (TSl tM)
abbrev tN:=T2 pY cM
abbrev pU:=TSl tN
abbrev fL:=T4 (TSl eF) eU cM pU
theorem TSl.mono {A B:AV->Prop} (h:∀ a,A a->B a) {a:AV} (ha:TSl A a):TSl B a:=by
 obtain ⟨xs,h1,h2⟩:=ha;exact ⟨xs,h1,fun x hx=>h x (h2 x hx)⟩
theorem TPatN.succ:∀ (d:Nat) (a:AV),TPatN d a->TPatN (d+1) a
 | 0,_,h=>h.elim
 | d+1,_,⟨x,y,z,u,e,h1,h2,h3,h4⟩=>⟨x,y,z,u,e,h1,h2,h3,TSl.mono (TPatN.succ d) h4⟩
theorem TPatN.le {d d':Nat} (hd:d<=d') {a:AV} (h:TPatN d a):TPatN d' a:=by
 induction hd with
 | refl=>exact h
 | step _ ih=>exact TPatN.succ _ _ ih
theorem aP:Tu eU:=gP (AC tu_int)
theorem tk_val:Tk 2 wK:=tk2 tu_int tu_int
theorem aO:Tu fY:=gP (iC tk_val)
theorem tk_fr:Tk 3 QC:=tk3 tu_int aO aO
theorem bR:Tu tL:=gP (iC tk_fr)
theorem tk_ob:Tk 4 nC:=tk4 tu_int tu_int aO bR
theorem dQ:Tu (TSl nC):=gP (iC tk_ob)
theorem tk_out:Tk 2 lB:=tk2 tu_int tu_int
theorem bV:Tu (TSl lB):=gP (iC tk_out)
theorem tk_wd:Tk 5 oT:=tk5 dQ aP bV aP tu_int
theorem cG:∀ d,Tk 4 (TPatN d)
 | 0=>fun _ h=>h.elim
 | d+1=>tk4 tu_int tu_int tu_str (gP (iC (cG d)))
theorem tk_pat:Tk 4 tM:=fun a ⟨d,h⟩=>cG d a h
theorem fB:Tu (TSl tM):=gP (iC tk_pat)
theorem tk_node:Tk 4 eF:=tk4 tu_int tu_int aP fB
theorem dH:Tu (TSl eF):=gP (iC tk_node)
theorem tk_con:Tk 2 tN:=tk2 tu_str tu_int
theorem dJ:Tu pU:=gP (iC tk_con)
theorem dK:Tk 4 fL:=tk4 dH aP tu_int dJ
def inR (n l h:Int):Bool:=decide (l<=n)&&decide (n<=h)
def nW (n:Int):Bool:=inR n (-1000000000) 1000000000
def nE (nf no:Int) (v:AV):Bool:=
 if (v.fld 0).num=1 then nW (v.fld 1).num else if (v.fld 0).num=2 then inR (v.fld 1).num 0 1 else if (v.fld 0).num=3 then decide ((v.fld 1).num=0)
 else if (v.fld 0).num=4 then inR (v.fld 1).num 0 (nf-1) else if (v.fld 0).num=5 then inR (v.fld 1).num 0 (no-1) else false
def eV (nf no:Int) (most:Int) (l:List AV):Bool:=decide ((l.length:Int)<=most)&&l.all (nE nf no)
def eG (n:AV):Int:=
 if (n.fld 0).num∈[6,9,10,11,12,13,18,22] then 2 else if (n.fld 0).num=14 then (n.fld 2).els.length
 else if (n.fld 0).num∈[7,8,16,17,15,19,20,23,24,26] then 1 else 0
def dZ (ns:List AV) (n:Int):AV:=ns.getD n.toNat .top
def IG (ns:List AV) (nf no:Int) (f:AV):Bool:=
 inR (f.fld 0).num 0 ((ns.length:Int)-1)&&eV nf no 30 (f.fld 1).els&&eV nf no (eG (dZ ns (f.fld 0).num)) (f.fld 2).els
def mJ (ns:List AV) (nf no:Int) (l:List AV):Bool:=decide (l.length<=40)&&l.all (IG ns nf no)
def fN (ns:List AV) (f:AV):Bool:=decide (((f.fld 2).els.length:Int)<eG (dZ ns (f.fld 0).num))
def gG (os:List AV) (k:Int):Bool:=inR k 0 ((os.length:Int)-1)&&decide (((os.getD k.toNat .top).fld 0).num=6)
def dF (os:List AV):Nat:=(os.filter fun o=>decide ((o.fld 0).num=6)).length
def wM (o:AV):Bool:=inR (o.fld 0).num 0 3&&nW (o.fld 1).num
end
end Go.Proofs.YtifmdaalhclhgaaGreat
/-
 Whether something is so of all elements of a list: the functions that take it as a function.
-/
namespace Go.Proofs.YtifmdaalhclhgaaGreat
open Go.Abs Go Go.Abs.TryzF
noncomputable section
set_option maxRecDepth 10000
theorem YF {g:FuncId} {first cap:List AV} {D:AV->Prop} (hD:∀ x,D x->wK x) (p:AV->Bool) (hu:UnderE 0 (.func (.func g) first cap)) (h:∀ x,D x->Abs.Returns Tryz.prog g (first++[x]++cap) (.bool (p x))) {a:AV} (ha:TSl D a):
 Abs.Returns Tryz.prog 331 [a,.func (.func g) first cap] (.int .i64 (cJ p a.els 0)):=by
 obtain ⟨xs,hs,hx⟩:=ha;have hl:=hs.2;refine aG (L:=[lT g first cap D fun x=>.bool (p x)]) (elist_cons (dL h) aH) aM (by kernel_rfl) Tryz.func331 Tryz.ntmps331 Tryz.results331 rfl rfl (aA (bW hs fun x hm=>(tk_val x (hD x (hx x hm))).1).und (aA hu.und aF)) aV ?_;rw [hs.els];simp +contextual +decide (maxSteps:=1000000) only [↓ wP,wQ,tf,Nat.reduceAdd,wS,reduceCtorEq,hs.len];refine aR (fun i e=>∃ t,e=⟨19,none,331,t,[],⟨0,0,.leaf⟩,.no⟩/\t.val 0=a/\t.val 1=.func (.func g) first cap/\t.val 7=.int .i64 (xs.length:Nat)/\t.val 8=.int .i64 (i:Nat)/\i<=xs.length/\cJ p xs 0=cJ p (xs.drop i) i) (fun i=>xs.length-i) 0 ⟨_,rfl,by simp +decide only [↓ aB,aE,aC],by simp +decide only [↓ aB,aE,aC],by simp +decide only [↓ aB,aE,aC],by simp +decide only [↓ aB,aE,aC];rfl,Nat.zero_le _,rfl⟩ ?_;rintro i _ ⟨t,rfl,t0,t1,t7,t8,hi,hq⟩
 rcases Nat.lt_or_ge i xs.length with hlt | hge
 ·obtain ⟨x,hDx,hm,hg,hd,hix,hw,hc⟩:=bB (k:=2) (fun x h=>tk_val.len (hD x h)) hx hl hlt
  rw [hd,cJ]at hq
  have hpf:=fun {d:Option AV}=>tk_val.pf (hD x hDx) (d:=d)
  cases hp:p x with
  | true=>
    rw [hp,if_pos rfl]at hq;simp +contextual +decide (maxSteps:=1000000) only [↓ wP,wQ,tf,Nat.reduceAdd,wS,reduceCtorEq,t0,t1,t7,t8,hs.idx,hix,hc,hpf,bH hDx,hp,hq]
  | false=>
    rw [hp,if_neg (by decide)]at hq;simp +contextual +decide (maxSteps:=1000000) only [↓ wP,wQ,tf,Nat.reduceAdd,wS,reduceCtorEq,t0,t1,t7,t8,hs.idx,hix,hc,hpf,bH hDx,hp,hw];exact ⟨i+1,by show _-_<_-_;omega,_,rfl,by simp +decide only [↓ aB,aE,aC,t0],by simp +decide only [↓ aB,aE,aC,t1],by simp +decide only [↓ aB,aE,aC,t7],by simp +decide only [↓ aB,aE,aC],hlt,hq⟩
 ·obtain rfl:i=xs.length:=Nat.le_antisymm hi hge
  rw [List.drop_length,cJ]at hq;simp +contextual +decide (maxSteps:=1000000) only [↓ wP,wQ,tf,Nat.reduceAdd,wS,reduceCtorEq,t0,t1,t7,t8,aS,hq]
theorem IH {g:FuncId} {first cap:List AV} {D:AV->Prop} (hD:∀ x,D x->wK x) (p:AV->Bool) (hu:UnderE 0 (.func (.func g) first cap)) (h:∀ x,D x->Abs.Returns Tryz.prog g (first++[x]++cap) (.bool (p x))) {a:AV} (ha:TSl D a):
 Abs.Returns Tryz.prog 278 [a,.func (.func g) first cap] (.bool (a.els.any p)):=by
 have hx:=YF hD p hu h ha;obtain ⟨xs,hs,hm⟩:=ha;refine aG (L:=[oW 331 [a,.func (.func g) first cap] (.int .i64 (cJ p a.els 0))]) (elist_cons (eJ hx) aH) aM (by kernel_rfl) Tryz.func278 Tryz.ntmps278 Tryz.results278 rfl rfl (aA (bW hs fun x h=>(tk_val x (hD x (hm x h))).1).und (aA hu.und aF)) aJ ?_;simp +contextual +decide (maxSteps:=1000000) only [↓ wP,wQ,tf,Nat.reduceAdd,wS,reduceCtorEq,cD];rw [gQ]
theorem aDn {g:FuncId} {first cap:List AV} {D:AV->Prop} (hD:∀ x,D x->QC x) (p:AV->Bool) (hu:UnderE 0 (.func (.func g) first cap)) (h:∀ x,D x->Abs.Returns Tryz.prog g (first++[x]++cap) (.bool (p x))) {a:AV} (ha:TSl D a):
 Abs.Returns Tryz.prog 351 [a,.func (.func g) first cap] (.int .i64 (cJ p a.els 0)):=by
 obtain ⟨xs,hs,hx⟩:=ha;have hl:=hs.2;refine aG (L:=[lT g first cap D fun x=>.bool (p x)]) (elist_cons (dL h) aH) aM (by kernel_rfl) Tryz.func351 Tryz.ntmps351 Tryz.results351 rfl rfl (aA (bW hs fun x hm=>(tk_fr x (hD x (hx x hm))).1).und (aA hu.und aF)) aV ?_;rw [hs.els];simp +contextual +decide (maxSteps:=1000000) only [↓ wP,wQ,tf,Nat.reduceAdd,wS,reduceCtorEq,hs.len];refine aR (fun i e=>∃ t,e=⟨19,none,351,t,[],⟨0,0,.leaf⟩,.no⟩/\t.val 0=a/\t.val 1=.func (.func g) first cap/\t.val 7=.int .i64 (xs.length:Nat)/\t.val 8=.int .i64 (i:Nat)/\i<=xs.length/\cJ p xs 0=cJ p (xs.drop i) i) (fun i=>xs.length-i) 0 ⟨_,rfl,by simp +decide only [↓ aB,aE,aC],by simp +decide only [↓ aB,aE,aC],by simp +decide only [↓ aB,aE,aC],by simp +decide only [↓ aB,aE,aC];rfl,Nat.zero_le _,rfl⟩ ?_;rintro i _ ⟨t,rfl,t0,t1,t7,t8,hi,hq⟩
 rcases Nat.lt_or_ge i xs.length with hlt | hge
 ·obtain ⟨x,hDx,hm,hg,hd,hix,hw,hc⟩:=bB (k:=3) (fun x h=>tk_fr.len (hD x h)) hx hl hlt
  rw [hd,cJ]at hq
  have hpf:=fun {d:Option AV}=>tk_fr.pf (hD x hDx) (d:=d)
  cases hp:p x with
  | true=>
    rw [hp,if_pos rfl]at hq;simp +contextual +decide (maxSteps:=1000000) only [↓ wP,wQ,tf,Nat.reduceAdd,wS,reduceCtorEq,t0,t1,t7,t8,hs.idx,hix,hc,hpf,bH hDx,hp,hq]
  | false=>
    rw [hp,if_neg (by decide)]at hq;simp +contextual +decide (maxSteps:=1000000) only [↓ wP,wQ,tf,Nat.reduceAdd,wS,reduceCtorEq,t0,t1,t7,t8,hs.idx,hix,hc,hpf,bH hDx,hp,hw];exact ⟨i+1,by show _-_<_-_;omega,_,rfl,by simp +decide only [↓ aB,aE,aC,t0],by simp +decide only [↓ aB,aE,aC,t1],by simp +decide only [↓ aB,aE,aC,t7],by simp +decide only [↓ aB,aE,aC],hlt,hq⟩
 ·obtain rfl:i=xs.length:=Nat.le_antisymm hi hge
  rw [List.drop_length,cJ]at hq;simp +contextual +decide (maxSteps:=1000000) only [↓ wP,wQ,tf,Nat.reduceAdd,wS,reduceCtorEq,t0,t1,t7,t8,aS,hq]
theorem MV {g:FuncId} {first cap:List AV} {D:AV->Prop} (hD:∀ x,D x->QC x) (p:AV->Bool) (hu:UnderE 0 (.func (.func g) first cap)) (h:∀ x,D x->Abs.Returns Tryz.prog g (first++[x]++cap) (.bool (p x))) {a:AV} (ha:TSl D a):
 Abs.Returns Tryz.prog 332 [a,.func (.func g) first cap] (.bool (a.els.any p)):=by
 have hx:=aDn hD p hu h ha;obtain ⟨xs,hs,hm⟩:=ha;refine aG (L:=[oW 351 [a,.func (.func g) first cap] (.int .i64 (cJ p a.els 0))]) (elist_cons (eJ hx) aH) aM (by kernel_rfl) Tryz.func332 Tryz.ntmps332 Tryz.results332 rfl rfl (aA (bW hs fun x h=>(tk_fr x (hD x (hm x h))).1).und (aA hu.und aF)) aJ ?_;simp +contextual +decide (maxSteps:=1000000) only [↓ wP,wQ,tf,Nat.reduceAdd,wS,reduceCtorEq,cD];rw [gQ]
theorem aDo {g:FuncId} {first cap:List AV} {D:AV->Prop} (hD:∀ x,D x->nC x) (p:AV->Bool) (hu:UnderE 0 (.func (.func g) first cap)) (h:∀ x,D x->Abs.Returns Tryz.prog g (first++[x]++cap) (.bool (p x))) {a:AV} (ha:TSl D a):
 Abs.Returns Tryz.prog 277 [a,.func (.func g) first cap] (.int .i64 (cJ p a.els 0)):=by
 obtain ⟨xs,hs,hx⟩:=ha;have hl:=hs.2;refine aG (L:=[lT g first cap D fun x=>.bool (p x)]) (elist_cons (dL h) aH) aM (by kernel_rfl) Tryz.func277 Tryz.ntmps277 Tryz.results277 rfl rfl (aA (bW hs fun x hm=>(tk_ob x (hD x (hx x hm))).1).und (aA hu.und aF)) aV ?_;rw [hs.els];simp +contextual +decide (maxSteps:=1000000) only [↓ wP,wQ,tf,Nat.reduceAdd,wS,reduceCtorEq,hs.len];refine aR (fun i e=>∃ t,e=⟨19,none,277,t,[],⟨0,0,.leaf⟩,.no⟩/\t.val 0=a/\t.val 1=.func (.func g) first cap/\t.val 7=.int .i64 (xs.length:Nat)/\t.val 8=.int .i64 (i:Nat)/\i<=xs.length/\cJ p xs 0=cJ p (xs.drop i) i) (fun i=>xs.length-i) 0 ⟨_,rfl,by simp +decide only [↓ aB,aE,aC],by simp +decide only [↓ aB,aE,aC],by simp +decide only [↓ aB,aE,aC],by simp +decide only [↓ aB,aE,aC];rfl,Nat.zero_le _,rfl⟩ ?_;rintro i _ ⟨t,rfl,t0,t1,t7,t8,hi,hq⟩
 rcases Nat.lt_or_ge i xs.length with hlt | hge
 ·obtain ⟨x,hDx,hm,hg,hd,hix,hw,hc⟩:=bB (k:=4) (fun x h=>tk_ob.len (hD x h)) hx hl hlt
  rw [hd,cJ]at hq
  have hpf:=fun {d:Option AV}=>tk_ob.pf (hD x hDx) (d:=d)
  cases hp:p x with
  | true=>
    rw [hp,if_pos rfl]at hq;simp +contextual +decide (maxSteps:=1000000) only [↓ wP,wQ,tf,Nat.reduceAdd,wS,reduceCtorEq,t0,t1,t7,t8,hs.idx,hix,hc,hpf,bH hDx,hp,hq]
  | false=>
    rw [hp,if_neg (by decide)]at hq;simp +contextual +decide (maxSteps:=1000000) only [↓ wP,wQ,tf,Nat.reduceAdd,wS,reduceCtorEq,t0,t1,t7,t8,hs.idx,hix,hc,hpf,bH hDx,hp,hw];exact ⟨i+1,by show _-_<_-_;omega,_,rfl,by simp +decide only [↓ aB,aE,aC,t0],by simp +decide only [↓ aB,aE,aC,t1],by simp +decide only [↓ aB,aE,aC,t7],by simp +decide only [↓ aB,aE,aC],hlt,hq⟩
 ·obtain rfl:i=xs.length:=Nat.le_antisymm hi hge
  rw [List.drop_length,cJ]at hq;simp +contextual +decide (maxSteps:=1000000) only [↓ wP,wQ,tf,Nat.reduceAdd,wS,reduceCtorEq,t0,t1,t7,t8,aS,hq]
theorem MW {g:FuncId} {first cap:List AV} {D:AV->Prop} (hD:∀ x,D x->nC x) (p:AV->Bool) (hu:UnderE 0 (.func (.func g) first cap)) (h:∀ x,D x->Abs.Returns Tryz.prog g (first++[x]++cap) (.bool (p x))) {a:AV} (ha:TSl D a):
 Abs.Returns Tryz.prog 229 [a,.func (.func g) first cap] (.bool (a.els.any p)):=by
 have hx:=aDo hD p hu h ha;obtain ⟨xs,hs,hm⟩:=ha;refine aG (L:=[oW 277 [a,.func (.func g) first cap] (.int .i64 (cJ p a.els 0))]) (elist_cons (eJ hx) aH) aM (by kernel_rfl) Tryz.func229 Tryz.ntmps229 Tryz.results229 rfl rfl (aA (bW hs fun x h=>(tk_ob x (hD x (hm x h))).1).und (aA hu.und aF)) aJ ?_;simp +contextual +decide (maxSteps:=1000000) only [↓ wP,wQ,tf,Nat.reduceAdd,wS,reduceCtorEq,cD];rw [gQ]
theorem YG {g:FuncId} {first cap:List AV} {D:AV->Prop} (hD:∀ x,D x->lB x) (p:AV->Bool) (hu:UnderE 0 (.func (.func g) first cap)) (h:∀ x,D x->Abs.Returns Tryz.prog g (first++[x]++cap) (.bool (p x))) {a:AV} (ha:TSl D a):
 Abs.Returns Tryz.prog 285 [a,.func (.func g) first cap] (.int .i64 (cJ p a.els 0)):=by
 obtain ⟨xs,hs,hx⟩:=ha;have hl:=hs.2;refine aG (L:=[lT g first cap D fun x=>.bool (p x)]) (elist_cons (dL h) aH) aM (by kernel_rfl) Tryz.func285 Tryz.ntmps285 Tryz.results285 rfl rfl (aA (bW hs fun x hm=>(tk_out x (hD x (hx x hm))).1).und (aA hu.und aF)) aV ?_;rw [hs.els];simp +contextual +decide (maxSteps:=1000000) only [↓ wP,wQ,tf,Nat.reduceAdd,wS,reduceCtorEq,hs.len];refine aR (fun i e=>∃ t,e=⟨19,none,285,t,[],⟨0,0,.leaf⟩,.no⟩/\t.val 0=a/\t.val 1=.func (.func g) first cap/\t.val 7=.int .i64 (xs.length:Nat)/\t.val 8=.int .i64 (i:Nat)/\i<=xs.length/\cJ p xs 0=cJ p (xs.drop i) i) (fun i=>xs.length-i) 0 ⟨_,rfl,by simp +decide only [↓ aB,aE,aC],by simp +decide only [↓ aB,aE,aC],by simp +decide only [↓ aB,aE,aC],by simp +decide only [↓ aB,aE,aC];rfl,Nat.zero_le _,rfl⟩ ?_;rintro i _ ⟨t,rfl,t0,t1,t7,t8,hi,hq⟩
 rcases Nat.lt_or_ge i xs.length with hlt | hge
 ·obtain ⟨x,hDx,hm,hg,hd,hix,hw,hc⟩:=bB (k:=2) (fun x h=>tk_out.len (hD x h)) hx hl hlt
  rw [hd,cJ]at hq
  have hpf:=fun {d:Option AV}=>tk_out.pf (hD x hDx) (d:=d)
  cases hp:p x with
  | true=>
    rw [hp,if_pos rfl]at hq;simp +contextual +decide (maxSteps:=1000000) only [↓ wP,wQ,tf,Nat.reduceAdd,wS,reduceCtorEq,t0,t1,t7,t8,hs.idx,hix,hc,hpf,bH hDx,hp,hq]
  | false=>
    rw [hp,if_neg (by decide)]at hq;simp +contextual +decide (maxSteps:=1000000) only [↓ wP,wQ,tf,Nat.reduceAdd,wS,reduceCtorEq,t0,t1,t7,t8,hs.idx,hix,hc,hpf,bH hDx,hp,hw];exact ⟨i+1,by show _-_<_-_;omega,_,rfl,by simp +decide only [↓ aB,aE,aC,t0],by simp +decide only [↓ aB,aE,aC,t1],by simp +decide only [↓ aB,aE,aC,t7],by simp +decide only [↓ aB,aE,aC],hlt,hq⟩
 ·obtain rfl:i=xs.length:=Nat.le_antisymm hi hge
  rw [List.drop_length,cJ]at hq;simp +contextual +decide (maxSteps:=1000000) only [↓ wP,wQ,tf,Nat.reduceAdd,wS,reduceCtorEq,t0,t1,t7,t8,aS,hq]
theorem II {g:FuncId} {first cap:List AV} {D:AV->Prop} (hD:∀ x,D x->lB x) (p:AV->Bool) (hu:UnderE 0 (.func (.func g) first cap)) (h:∀ x,D x->Abs.Returns Tryz.prog g (first++[x]++cap) (.bool (p x))) {a:AV} (ha:TSl D a):
 Abs.Returns Tryz.prog 238 [a,.func (.func g) first cap] (.bool (a.els.any p)):=by
 have hx:=YG hD p hu h ha;obtain ⟨xs,hs,hm⟩:=ha;refine aG (L:=[oW 285 [a,.func (.func g) first cap] (.int .i64 (cJ p a.els 0))]) (elist_cons (eJ hx) aH) aM (by kernel_rfl) Tryz.func238 Tryz.ntmps238 Tryz.results238 rfl rfl (aA (bW hs fun x h=>(tk_out x (hD x (hm x h))).1).und (aA hu.und aF)) aJ ?_;simp +contextual +decide (maxSteps:=1000000) only [↓ wP,wQ,tf,Nat.reduceAdd,wS,reduceCtorEq,cD];rw [gQ]
theorem YH {g:FuncId} {first cap:List AV} {D:AV->Prop} (hD:∀ x,D x->cM x) (p:AV->Bool) (hu:UnderE 0 (.func (.func g) first cap)) (h:∀ x,D x->Abs.Returns Tryz.prog g (first++[x]++cap) (.bool (p x))) {a:AV} (ha:TSl D a):
 Abs.Returns Tryz.prog 330 [a,.func (.func g) first cap] (.int .i64 (cJ p a.els 0)):=by
 obtain ⟨xs,hs,hx⟩:=ha;have hl:=hs.2;refine aG (L:=[lT g first cap D fun x=>.bool (p x)]) (elist_cons (dL h) aH) aM (by kernel_rfl) Tryz.func330 Tryz.ntmps330 Tryz.results330 rfl rfl (aA (bW hs fun x hm=>(tu_int x (hD x (hx x hm))).1).und (aA hu.und aF)) aV ?_;rw [hs.els];simp +contextual +decide (maxSteps:=1000000) only [↓ wP,wQ,tf,Nat.reduceAdd,wS,reduceCtorEq,hs.len];refine aR (fun i e=>∃ t,e=⟨19,none,330,t,[],⟨0,0,.leaf⟩,.no⟩/\t.val 0=a/\t.val 1=.func (.func g) first cap/\t.val 7=.int .i64 (xs.length:Nat)/\t.val 8=.int .i64 (i:Nat)/\i<=xs.length/\cJ p xs 0=cJ p (xs.drop i) i) (fun i=>xs.length-i) 0 ⟨_,rfl,by simp +decide only [↓ aB,aE,aC],by simp +decide only [↓ aB,aE,aC],by simp +decide only [↓ aB,aE,aC],by simp +decide only [↓ aB,aE,aC];rfl,Nat.zero_le _,rfl⟩ ?_;rintro i _ ⟨t,rfl,t0,t1,t7,t8,hi,hq⟩
 rcases Nat.lt_or_ge i xs.length with hlt | hge
 ·obtain ⟨x,hDx,hm,hg,hd,hix,hw,hc⟩:=bB (k:=1) (fun x h=>tu_int.len (hD x h)) hx hl hlt
  rw [hd,cJ]at hq
  have hpf:=fun {d:Option AV}=>tu_int.pf (hD x hDx) (d:=d)
  cases hp:p x with
  | true=>
    rw [hp,if_pos rfl]at hq;simp +contextual +decide (maxSteps:=1000000) only [↓ wP,wQ,tf,Nat.reduceAdd,wS,reduceCtorEq,t0,t1,t7,t8,hs.idx,hix,hc,hpf,bH hDx,hp,hq]
  | false=>
    rw [hp,if_neg (by decide)]at hq;simp +contextual +decide (maxSteps:=1000000) only [↓ wP,wQ,tf,Nat.reduceAdd,wS,reduceCtorEq,t0,t1,t7,t8,hs.idx,hix,hc,hpf,bH hDx,hp,hw];exact ⟨i+1,by show _-_<_-_;omega,_,rfl,by simp +decide only [↓ aB,aE,aC,t0],by simp +decide only [↓ aB,aE,aC,t1],by simp +decide only [↓ aB,aE,aC,t7],by simp +decide only [↓ aB,aE,aC],hlt,hq⟩
 ·obtain rfl:i=xs.length:=Nat.le_antisymm hi hge
  rw [List.drop_length,cJ]at hq;simp +contextual +decide (maxSteps:=1000000) only [↓ wP,wQ,tf,Nat.reduceAdd,wS,reduceCtorEq,t0,t1,t7,t8,aS,hq]
theorem xQ {g:FuncId} {first cap:List AV} {D:AV->Prop} (hD:∀ x,D x->cM x) (p:AV->Bool) (hu:UnderE 0 (.func (.func g) first cap)) (h:∀ x,D x->Abs.Returns Tryz.prog g (first++[x]++cap) (.bool (p x))) {a:AV} (ha:TSl D a):
 Abs.Returns Tryz.prog 275 [a,.func (.func g) first cap] (.bool (a.els.any p)):=by
 have hx:=YH hD p hu h ha;obtain ⟨xs,hs,hm⟩:=ha;refine aG (L:=[oW 330 [a,.func (.func g) first cap] (.int .i64 (cJ p a.els 0))]) (elist_cons (eJ hx) aH) aM (by kernel_rfl) Tryz.func275 Tryz.ntmps275 Tryz.results275 rfl rfl (aA (bW hs fun x h=>(tu_int x (hD x (hm x h))).1).und (aA hu.und aF)) aJ ?_;simp +contextual +decide (maxSteps:=1000000) only [↓ wP,wQ,tf,Nat.reduceAdd,wS,reduceCtorEq,cD];rw [gQ]
theorem YI {g:FuncId} {first cap:List AV} {D:AV->Prop} (hD:∀ x,D x->tN x) (p:AV->Bool) (hu:UnderE 0 (.func (.func g) first cap)) (h:∀ x,D x->Abs.Returns Tryz.prog g (first++[x]++cap) (.bool (p x))) {a:AV} (ha:TSl D a):
 Abs.Returns Tryz.prog 324 [a,.func (.func g) first cap] (.int .i64 (cJ p a.els 0)):=by
 obtain ⟨xs,hs,hx⟩:=ha;have hl:=hs.2;refine aG (L:=[lT g first cap D fun x=>.bool (p x)]) (elist_cons (dL h) aH) aM (by kernel_rfl) Tryz.func324 Tryz.ntmps324 Tryz.results324 rfl rfl (aA (bW hs fun x hm=>(tk_con x (hD x (hx x hm))).1).und (aA hu.und aF)) aV ?_;rw [hs.els];simp +contextual +decide (maxSteps:=1000000) only [↓ wP,wQ,tf,Nat.reduceAdd,wS,reduceCtorEq,hs.len];refine aR (fun i e=>∃ t,e=⟨19,none,324,t,[],⟨0,0,.leaf⟩,.no⟩/\t.val 0=a/\t.val 1=.func (.func g) first cap/\t.val 7=.int .i64 (xs.length:Nat)/\t.val 8=.int .i64 (i:Nat)/\i<=xs.length/\cJ p xs 0=cJ p (xs.drop i) i) (fun i=>xs.length-i) 0 ⟨_,rfl,by simp +decide only [↓ aB,aE,aC],by simp +decide only [↓ aB,aE,aC],by simp +decide only [↓ aB,aE,aC],by simp +decide only [↓ aB,aE,aC];rfl,Nat.zero_le _,rfl⟩ ?_;rintro i _ ⟨t,rfl,t0,t1,t7,t8,hi,hq⟩
 rcases Nat.lt_or_ge i xs.length with hlt | hge
 ·obtain ⟨x,hDx,hm,hg,hd,hix,hw,hc⟩:=bB (k:=2) (fun x h=>tk_con.len (hD x h)) hx hl hlt
  rw [hd,cJ]at hq
  have hpf:=fun {d:Option AV}=>tk_con.pf (hD x hDx) (d:=d)
  cases hp:p x with
  | true=>
    rw [hp,if_pos rfl]at hq;simp +contextual +decide (maxSteps:=1000000) only [↓ wP,wQ,tf,Nat.reduceAdd,wS,reduceCtorEq,t0,t1,t7,t8,hs.idx,hix,hc,hpf,bH hDx,hp,hq]
  | false=>
    rw [hp,if_neg (by decide)]at hq;simp +contextual +decide (maxSteps:=1000000) only [↓ wP,wQ,tf,Nat.reduceAdd,wS,reduceCtorEq,t0,t1,t7,t8,hs.idx,hix,hc,hpf,bH hDx,hp,hw];exact ⟨i+1,by show _-_<_-_;omega,_,rfl,by simp +decide only [↓ aB,aE,aC,t0],by simp +decide only [↓ aB,aE,aC,t1],by simp +decide only [↓ aB,aE,aC,t7],by simp +decide only [↓ aB,aE,aC],hlt,hq⟩
 ·obtain rfl:i=xs.length:=Nat.le_antisymm hi hge
  rw [List.drop_length,cJ]at hq;simp +contextual +decide (maxSteps:=1000000) only [↓ wP,wQ,tf,Nat.reduceAdd,wS,reduceCtorEq,t0,t1,t7,t8,aS,hq]
theorem IJ {g:FuncId} {first cap:List AV} {D:AV->Prop} (hD:∀ x,D x->tN x) (p:AV->Bool) (hu:UnderE 0 (.func (.func g) first cap)) (h:∀ x,D x->Abs.Returns Tryz.prog g (first++[x]++cap) (.bool (p x))) {a:AV} (ha:TSl D a):
 Abs.Returns Tryz.prog 264 [a,.func (.func g) first cap] (.bool (a.els.any p)):=by
 have hx:=YI hD p hu h ha;obtain ⟨xs,hs,hm⟩:=ha;refine aG (L:=[oW 324 [a,.func (.func g) first cap] (.int .i64 (cJ p a.els 0))]) (elist_cons (eJ hx) aH) aM (by kernel_rfl) Tryz.func264 Tryz.ntmps264 Tryz.results264 rfl rfl (aA (bW hs fun x h=>(tk_con x (hD x (hm x h))).1).und (aA hu.und aF)) aJ ?_;simp +contextual +decide (maxSteps:=1000000) only [↓ wP,wQ,tf,Nat.reduceAdd,wS,reduceCtorEq,cD];rw [gQ]
theorem SU {g:FuncId} {first cap:List AV} {D:AV->Prop} (hD:∀ x,D x->eF x) (p:AV->Bool) (hu:UnderE 0 (.func (.func g) first cap)) (h:∀ x,D x->Abs.Returns Tryz.prog g (first++[x]++cap) (.bool (p x))) {a:AV} (ha:TSl D a):
 Abs.Returns Tryz.prog 326 [a,.func (.func g) first cap] (.int .i64 (cJ p a.els 0)):=by
 obtain ⟨xs,hs,hx⟩:=ha;have hl:=hs.2;refine aG (L:=[lT g first cap D fun x=>.bool (p x)]) (elist_cons (dL h) aH) aM (by kernel_rfl) Tryz.func326 Tryz.ntmps326 Tryz.results326 rfl rfl (aA (bW hs fun x hm=>(tk_node x (hD x (hx x hm))).1).und (aA hu.und aF)) aV ?_;rw [hs.els];simp +contextual +decide (maxSteps:=1000000) only [↓ wP,wQ,tf,Nat.reduceAdd,wS,reduceCtorEq,hs.len];refine aR (fun i e=>∃ t,e=⟨19,none,326,t,[],⟨0,0,.leaf⟩,.no⟩/\t.val 0=a/\t.val 1=.func (.func g) first cap/\t.val 7=.int .i64 (xs.length:Nat)/\t.val 8=.int .i64 (i:Nat)/\i<=xs.length/\cJ p xs 0=cJ p (xs.drop i) i) (fun i=>xs.length-i) 0 ⟨_,rfl,by simp +decide only [↓ aB,aE,aC],by simp +decide only [↓ aB,aE,aC],by simp +decide only [↓ aB,aE,aC],by simp +decide only [↓ aB,aE,aC];rfl,Nat.zero_le _,rfl⟩ ?_;rintro i _ ⟨t,rfl,t0,t1,t7,t8,hi,hq⟩
 rcases Nat.lt_or_ge i xs.length with hlt | hge
 ·obtain ⟨x,hDx,hm,hg,hd,hix,hw,hc⟩:=bB (k:=4) (fun x h=>tk_node.len (hD x h)) hx hl hlt
  rw [hd,cJ]at hq
  have hpf:=fun {d:Option AV}=>tk_node.pf (hD x hDx) (d:=d)
  cases hp:p x with
  | true=>
    rw [hp,if_pos rfl]at hq;simp +contextual +decide (maxSteps:=1000000) only [↓ wP,wQ,tf,Nat.reduceAdd,wS,reduceCtorEq,t0,t1,t7,t8,hs.idx,hix,hc,hpf,bH hDx,hp,hq]
  | false=>
    rw [hp,if_neg (by decide)]at hq;simp +contextual +decide (maxSteps:=1000000) only [↓ wP,wQ,tf,Nat.reduceAdd,wS,reduceCtorEq,t0,t1,t7,t8,hs.idx,hix,hc,hpf,bH hDx,hp,hw];exact ⟨i+1,by show _-_<_-_;omega,_,rfl,by simp +decide only [↓ aB,aE,aC,t0],by simp +decide only [↓ aB,aE,aC,t1],by simp +decide only [↓ aB,aE,aC,t7],by simp +decide only [↓ aB,aE,aC],hlt,hq⟩
 ·obtain rfl:i=xs.length:=Nat.le_antisymm hi hge
  rw [List.drop_length,cJ]at hq;simp +contextual +decide (maxSteps:=1000000) only [↓ wP,wQ,tf,Nat.reduceAdd,wS,reduceCtorEq,t0,t1,t7,t8,aS,hq]
theorem EX {g:FuncId} {first cap:List AV} {D:AV->Prop} (hD:∀ x,D x->eF x) (p:AV->Bool) (hu:UnderE 0 (.func (.func g) first cap)) (h:∀ x,D x->Abs.Returns Tryz.prog g (first++[x]++cap) (.bool (p x))) {a:AV} (ha:TSl D a):
 Abs.Returns Tryz.prog 267 [a,.func (.func g) first cap] (.bool (a.els.any p)):=by
 have hx:=SU hD p hu h ha;obtain ⟨xs,hs,hm⟩:=ha;refine aG (L:=[oW 326 [a,.func (.func g) first cap] (.int .i64 (cJ p a.els 0))]) (elist_cons (eJ hx) aH) aM (by kernel_rfl) Tryz.func267 Tryz.ntmps267 Tryz.results267 rfl rfl (aA (bW hs fun x h=>(tk_node x (hD x (hm x h))).1).und (aA hu.und aF)) aJ ?_;simp +contextual +decide (maxSteps:=1000000) only [↓ wP,wQ,tf,Nat.reduceAdd,wS,reduceCtorEq,cD];rw [gQ]
theorem YJ {g:FuncId} {first cap:List AV} {D:AV->Prop} (hD:∀ x,D x->tM x) (p:AV->Bool) (hu:UnderE 0 (.func (.func g) first cap)) (h:∀ x,D x->Abs.Returns Tryz.prog g (first++[x]++cap) (.bool (p x))) {a:AV} (ha:TSl D a):
 Abs.Returns Tryz.prog 350 [a,.func (.func g) first cap] (.int .i64 (cJ p a.els 0)):=by
 obtain ⟨xs,hs,hx⟩:=ha;have hl:=hs.2;refine aG (L:=[lT g first cap D fun x=>.bool (p x)]) (elist_cons (dL h) aH) aM (by kernel_rfl) Tryz.func350 Tryz.ntmps350 Tryz.results350 rfl rfl (aA (bW hs fun x hm=>(tk_pat x (hD x (hx x hm))).1).und (aA hu.und aF)) aV ?_;rw [hs.els];simp +contextual +decide (maxSteps:=1000000) only [↓ wP,wQ,tf,Nat.reduceAdd,wS,reduceCtorEq,hs.len];refine aR (fun i e=>∃ t,e=⟨19,none,350,t,[],⟨0,0,.leaf⟩,.no⟩/\t.val 0=a/\t.val 1=.func (.func g) first cap/\t.val 7=.int .i64 (xs.length:Nat)/\t.val 8=.int .i64 (i:Nat)/\i<=xs.length/\cJ p xs 0=cJ p (xs.drop i) i) (fun i=>xs.length-i) 0 ⟨_,rfl,by simp +decide only [↓ aB,aE,aC],by simp +decide only [↓ aB,aE,aC],by simp +decide only [↓ aB,aE,aC],by simp +decide only [↓ aB,aE,aC];rfl,Nat.zero_le _,rfl⟩ ?_;rintro i _ ⟨t,rfl,t0,t1,t7,t8,hi,hq⟩
 rcases Nat.lt_or_ge i xs.length with hlt | hge
 ·obtain ⟨x,hDx,hm,hg,hd,hix,hw,hc⟩:=bB (k:=4) (fun x h=>tk_pat.len (hD x h)) hx hl hlt
  rw [hd,cJ]at hq
  have hpf:=fun {d:Option AV}=>tk_pat.pf (hD x hDx) (d:=d)
  cases hp:p x with
  | true=>
    rw [hp,if_pos rfl]at hq;simp +contextual +decide (maxSteps:=1000000) only [↓ wP,wQ,tf,Nat.reduceAdd,wS,reduceCtorEq,t0,t1,t7,t8,hs.idx,hix,hc,hpf,bH hDx,hp,hq]
  | false=>
    rw [hp,if_neg (by decide)]at hq;simp +contextual +decide (maxSteps:=1000000) only [↓ wP,wQ,tf,Nat.reduceAdd,wS,reduceCtorEq,t0,t1,t7,t8,hs.idx,hix,hc,hpf,bH hDx,hp,hw];exact ⟨i+1,by show _-_<_-_;omega,_,rfl,by simp +decide only [↓ aB,aE,aC,t0],by simp +decide only [↓ aB,aE,aC,t1],by simp +decide only [↓ aB,aE,aC,t7],by simp +decide only [↓ aB,aE,aC],hlt,hq⟩
 ·obtain rfl:i=xs.length:=Nat.le_antisymm hi hge
  rw [List.drop_length,cJ]at hq;simp +contextual +decide (maxSteps:=1000000) only [↓ wP,wQ,tf,Nat.reduceAdd,wS,reduceCtorEq,t0,t1,t7,t8,aS,hq]
theorem IK {g:FuncId} {first cap:List AV} {D:AV->Prop} (hD:∀ x,D x->tM x) (p:AV->Bool) (hu:UnderE 0 (.func (.func g) first cap)) (h:∀ x,D x->Abs.Returns Tryz.prog g (first++[x]++cap) (.bool (p x))) {a:AV} (ha:TSl D a):
 Abs.Returns Tryz.prog 328 [a,.func (.func g) first cap] (.bool (a.els.any p)):=by
 have hx:=YJ hD p hu h ha;obtain ⟨xs,hs,hm⟩:=ha;refine aG (L:=[oW 350 [a,.func (.func g) first cap] (.int .i64 (cJ p a.els 0))]) (elist_cons (eJ hx) aH) aM (by kernel_rfl) Tryz.func328 Tryz.ntmps328 Tryz.results328 rfl rfl (aA (bW hs fun x h=>(tk_pat x (hD x (hm x h))).1).und (aA hu.und aF)) aJ ?_;simp +contextual +decide (maxSteps:=1000000) only [↓ wP,wQ,tf,Nat.reduceAdd,wS,reduceCtorEq,cD];rw [gQ]
theorem YK {g:FuncId} {first cap:List AV} {D:AV->Prop} (hD:∀ x,D x->tN x) (p:AV->Bool) (hu:UnderE 0 (.func (.func g) first cap)) (h:∀ x,D x->Abs.Returns Tryz.prog g (first++[x]++cap) (.bool (p x))) (x:AV) (hDx:D x):
 Abs.Returns Tryz.prog 265 ([]++[x]++[.pf (.func (.func g) first cap)]) (.bool (!p x)):=by
 show Abs.Returns Tryz.prog 265 [x,.pf (.func (.func g) first cap)] (.bool (!p x));refine aG (L:=[lT g first cap D fun x=>.bool (p x)]) (elist_cons (dL h) aH) aM (by kernel_rfl) Tryz.func265 Tryz.ntmps265 Tryz.results265 rfl rfl (aA (tk_con x (hD x hDx)).1.und (aA (bP hu).und aF)) aJ ?_;obtain ⟨_,cs,rfl,hcl,hca⟩:=tk_con x (hD x hDx)
 have hz:0+2<=cs.length:=by omega
 have he:=fun {s:Sto}=>bH (g:=g) (first:=first) (cap:=cap) (D:=D) (p:=fun x=>.bool (p x)) (L:=[]) (s:=s) hDx
 simp +contextual +decide (maxSteps:=1000000) only [↓ wP,wQ,tf,Nat.reduceAdd,wS,reduceCtorEq,he,hcl,hca,bE hcl,hz]
theorem aDp {g:FuncId} {first cap:List AV} {D:AV->Prop} (hD:∀ x,D x->tN x) (p:AV->Bool) (hu:UnderE 0 (.func (.func g) first cap)) (h:∀ x,D x->Abs.Returns Tryz.prog g (first++[x]++cap) (.bool (p x))) {a:AV} (ha:TSl D a):
 Abs.Returns Tryz.prog 220 [a,.func (.func g) first cap] (.bool (a.els.all p)):=by
 have hc:=IJ (first:=[]) (cap:=[.pf (.func (.func g) first cap)]) hD (fun x=>!p x) (cC (fun _ h=>nomatch h) (by intro x hx;simp at hx;subst hx;exact bP hu)) (YK hD p hu h) ha
 have hb:∀ args s,HB (.func (.func 265) [] [.ptr 0 0 0]) (fun b=>b=a) (fun s=>s.get 0=some (bA 0 [.func (.func g) first cap])) args s->bL Tryz.prog 264 args s (.ret (.bool (a.els.any fun x=>!p x)) none):=fun args s hs=>by
  match args,hs with
  | [b,f],⟨h1,h2,h3⟩=>
    subst h1;subst h2;obtain ⟨xs,hsl,hm⟩:=ha;exact eI hc dB ⟨.und _ (bW hsl fun x h=>(tk_con x (hD x (hm x h))).1).und,cL h3 rfl (by intro x hx;simp at hx;subst hx;exact hu.und),trivial⟩
 obtain ⟨xs,hs,hm⟩:=ha;refine aG (L:=[entB 264 _ fun _=>.bool (a.els.any fun x=>!p x)]) (elist_cons (entB_ok hb) aH) aM (by kernel_rfl) Tryz.func220 Tryz.ntmps220 Tryz.results220 rfl rfl (aA (bW hs fun x h=>(tk_con x (hD x (hm x h))).1).und (aA hu.und aF)) aJ ?_
 have he:∀ {s:Sto},s.get 0=some (bA 0 [.func (.func g) first cap])->bJ [entB 264 (HB (.func (.func 265) [] [.ptr 0 0 0]) (fun b=>b=a) fun s=>s.get 0=some (bA 0 [.func (.func g) first cap])) fun _=>.bool (a.els.any fun x=>!p x)] 264 [a,.func (.func 265) [] [.ptr 0 0 0]] s=some (.ret (.bool (a.els.any fun x=>!p x)) none):=fun hs=>bO ⟨rfl,rfl,hs⟩
 simp +contextual +decide (maxSteps:=1000000) only [↓ wP,wQ,tf,Nat.reduceAdd,wS,reduceCtorEq,he,hs.cell];rw [<-List.not_all_eq_any_not,Bool.not_not]
theorem SV {g:FuncId} {first cap:List AV} {D:AV->Prop} (hD:∀ x,D x->eF x) (p:AV->Bool) (hu:UnderE 0 (.func (.func g) first cap)) (h:∀ x,D x->Abs.Returns Tryz.prog g (first++[x]++cap) (.bool (p x))) (x:AV) (hDx:D x):
 Abs.Returns Tryz.prog 268 ([]++[x]++[.pf (.func (.func g) first cap)]) (.bool (!p x)):=by
 show Abs.Returns Tryz.prog 268 [x,.pf (.func (.func g) first cap)] (.bool (!p x));refine aG (L:=[lT g first cap D fun x=>.bool (p x)]) (elist_cons (dL h) aH) aM (by kernel_rfl) Tryz.func268 Tryz.ntmps268 Tryz.results268 rfl rfl (aA (tk_node x (hD x hDx)).1.und (aA (bP hu).und aF)) aJ ?_;obtain ⟨_,cs,rfl,hcl,hca⟩:=tk_node x (hD x hDx)
 have hz:0+4<=cs.length:=by omega
 have he:=fun {s:Sto}=>bH (g:=g) (first:=first) (cap:=cap) (D:=D) (p:=fun x=>.bool (p x)) (L:=[]) (s:=s) hDx
 simp +contextual +decide (maxSteps:=1000000) only [↓ wP,wQ,tf,Nat.reduceAdd,wS,reduceCtorEq,he,hcl,hca,bE hcl,hz]
theorem YL {g:FuncId} {first cap:List AV} {D:AV->Prop} (hD:∀ x,D x->eF x) (p:AV->Bool) (hu:UnderE 0 (.func (.func g) first cap)) (h:∀ x,D x->Abs.Returns Tryz.prog g (first++[x]++cap) (.bool (p x))) {a:AV} (ha:TSl D a):
 Abs.Returns Tryz.prog 225 [a,.func (.func g) first cap] (.bool (a.els.all p)):=by
 have hc:=EX (first:=[]) (cap:=[.pf (.func (.func g) first cap)]) hD (fun x=>!p x) (cC (fun _ h=>nomatch h) (by intro x hx;simp at hx;subst hx;exact bP hu)) (SV hD p hu h) ha
 have hb:∀ args s,HB (.func (.func 268) [] [.ptr 0 0 0]) (fun b=>b=a) (fun s=>s.get 0=some (bA 0 [.func (.func g) first cap])) args s->bL Tryz.prog 267 args s (.ret (.bool (a.els.any fun x=>!p x)) none):=fun args s hs=>by
  match args,hs with
  | [b,f],⟨h1,h2,h3⟩=>
    subst h1;subst h2;obtain ⟨xs,hsl,hm⟩:=ha;exact eI hc dB ⟨.und _ (bW hsl fun x h=>(tk_node x (hD x (hm x h))).1).und,cL h3 rfl (by intro x hx;simp at hx;subst hx;exact hu.und),trivial⟩
 obtain ⟨xs,hs,hm⟩:=ha;refine aG (L:=[entB 267 _ fun _=>.bool (a.els.any fun x=>!p x)]) (elist_cons (entB_ok hb) aH) aM (by kernel_rfl) Tryz.func225 Tryz.ntmps225 Tryz.results225 rfl rfl (aA (bW hs fun x h=>(tk_node x (hD x (hm x h))).1).und (aA hu.und aF)) aJ ?_
 have he:∀ {s:Sto},s.get 0=some (bA 0 [.func (.func g) first cap])->bJ [entB 267 (HB (.func (.func 268) [] [.ptr 0 0 0]) (fun b=>b=a) fun s=>s.get 0=some (bA 0 [.func (.func g) first cap])) fun _=>.bool (a.els.any fun x=>!p x)] 267 [a,.func (.func 268) [] [.ptr 0 0 0]] s=some (.ret (.bool (a.els.any fun x=>!p x)) none):=fun hs=>bO ⟨rfl,rfl,hs⟩
 simp +contextual +decide (maxSteps:=1000000) only [↓ wP,wQ,tf,Nat.reduceAdd,wS,reduceCtorEq,he,hs.cell];rw [<-List.not_all_eq_any_not,Bool.not_not]
theorem YM {g:FuncId} {first cap:List AV} {D:AV->Prop} (hD:∀ x,D x->tM x) (p:AV->Bool) (hu:UnderE 0 (.func (.func g) first cap)) (h:∀ x,D x->Abs.Returns Tryz.prog g (first++[x]++cap) (.bool (p x))) (x:AV) (hDx:D x):
 Abs.Returns Tryz.prog 329 ([]++[x]++[.pf (.func (.func g) first cap)]) (.bool (!p x)):=by
 show Abs.Returns Tryz.prog 329 [x,.pf (.func (.func g) first cap)] (.bool (!p x));refine aG (L:=[lT g first cap D fun x=>.bool (p x)]) (elist_cons (dL h) aH) aM (by kernel_rfl) Tryz.func329 Tryz.ntmps329 Tryz.results329 rfl rfl (aA (tk_pat x (hD x hDx)).1.und (aA (bP hu).und aF)) aJ ?_;obtain ⟨_,cs,rfl,hcl,hca⟩:=tk_pat x (hD x hDx)
 have hz:0+4<=cs.length:=by omega
 have he:=fun {s:Sto}=>bH (g:=g) (first:=first) (cap:=cap) (D:=D) (p:=fun x=>.bool (p x)) (L:=[]) (s:=s) hDx
 simp +contextual +decide (maxSteps:=1000000) only [↓ wP,wQ,tf,Nat.reduceAdd,wS,reduceCtorEq,he,hcl,hca,bE hcl,hz]
theorem QD {g:FuncId} {first cap:List AV} {D:AV->Prop} (hD:∀ x,D x->tM x) (p:AV->Bool) (hu:UnderE 0 (.func (.func g) first cap)) (h:∀ x,D x->Abs.Returns Tryz.prog g (first++[x]++cap) (.bool (p x))) {a:AV} (ha:TSl D a):
 Abs.Returns Tryz.prog 274 [a,.func (.func g) first cap] (.bool (a.els.all p)):=by
 have hc:=IK (first:=[]) (cap:=[.pf (.func (.func g) first cap)]) hD (fun x=>!p x) (cC (fun _ h=>nomatch h) (by intro x hx;simp at hx;subst hx;exact bP hu)) (YM hD p hu h) ha
 have hb:∀ args s,HB (.func (.func 329) [] [.ptr 0 0 0]) (fun b=>b=a) (fun s=>s.get 0=some (bA 0 [.func (.func g) first cap])) args s->bL Tryz.prog 328 args s (.ret (.bool (a.els.any fun x=>!p x)) none):=fun args s hs=>by
  match args,hs with
  | [b,f],⟨h1,h2,h3⟩=>
    subst h1;subst h2;obtain ⟨xs,hsl,hm⟩:=ha;exact eI hc dB ⟨.und _ (bW hsl fun x h=>(tk_pat x (hD x (hm x h))).1).und,cL h3 rfl (by intro x hx;simp at hx;subst hx;exact hu.und),trivial⟩
 obtain ⟨xs,hs,hm⟩:=ha;refine aG (L:=[entB 328 _ fun _=>.bool (a.els.any fun x=>!p x)]) (elist_cons (entB_ok hb) aH) aM (by kernel_rfl) Tryz.func274 Tryz.ntmps274 Tryz.results274 rfl rfl (aA (bW hs fun x h=>(tk_pat x (hD x (hm x h))).1).und (aA hu.und aF)) aJ ?_
 have he:∀ {s:Sto},s.get 0=some (bA 0 [.func (.func g) first cap])->bJ [entB 328 (HB (.func (.func 329) [] [.ptr 0 0 0]) (fun b=>b=a) fun s=>s.get 0=some (bA 0 [.func (.func g) first cap])) fun _=>.bool (a.els.any fun x=>!p x)] 328 [a,.func (.func 329) [] [.ptr 0 0 0]] s=some (.ret (.bool (a.els.any fun x=>!p x)) none):=fun hs=>bO ⟨rfl,rfl,hs⟩
 simp +contextual +decide (maxSteps:=1000000) only [↓ wP,wQ,tf,Nat.reduceAdd,wS,reduceCtorEq,he,hs.cell];rw [<-List.not_all_eq_any_not,Bool.not_not]
theorem YN {g:FuncId} {first cap:List AV} {D:AV->Prop} (hD:∀ x,D x->cM x) (p:AV->Bool) (hu:UnderE 0 (.func (.func g) first cap)) (h:∀ x,D x->Abs.Returns Tryz.prog g (first++[x]++cap) (.bool (p x))) (x:AV) (hDx:D x):
 Abs.Returns Tryz.prog 276 ([]++[x]++[.pf (.func (.func g) first cap)]) (.bool (!p x)):=by
 show Abs.Returns Tryz.prog 276 [x,.pf (.func (.func g) first cap)] (.bool (!p x));refine aG (L:=[lT g first cap D fun x=>.bool (p x)]) (elist_cons (dL h) aH) aM (by kernel_rfl) Tryz.func276 Tryz.ntmps276 Tryz.results276 rfl rfl (aA (tu_int x (hD x hDx)).1.und (aA (bP hu).und aF)) aJ ?_;have hca:=(tu_int x (hD x hDx)).2
 have he:=fun {s:Sto}=>bH (g:=g) (first:=first) (cap:=cap) (D:=D) (p:=fun x=>.bool (p x)) (L:=[]) (s:=s) hDx
 simp +contextual +decide (maxSteps:=1000000) only [↓ wP,wQ,tf,Nat.reduceAdd,wS,reduceCtorEq,he,hca]
theorem aDq {g:FuncId} {first cap:List AV} {D:AV->Prop} (hD:∀ x,D x->cM x) (p:AV->Bool) (hu:UnderE 0 (.func (.func g) first cap)) (h:∀ x,D x->Abs.Returns Tryz.prog g (first++[x]++cap) (.bool (p x))) {a:AV} (ha:TSl D a):
 Abs.Returns Tryz.prog 227 [a,.func (.func g) first cap] (.bool (a.els.all p)):=by
 have hc:=xQ (first:=[]) (cap:=[.pf (.func (.func g) first cap)]) hD (fun x=>!p x) (cC (fun _ h=>nomatch h) (by intro x hx;simp at hx;subst hx;exact bP hu)) (YN hD p hu h) ha
 have hb:∀ args s,HB (.func (.func 276) [] [.ptr 0 0 0]) (fun b=>b=a) (fun s=>s.get 0=some (bA 0 [.func (.func g) first cap])) args s->bL Tryz.prog 275 args s (.ret (.bool (a.els.any fun x=>!p x)) none):=fun args s hs=>by
  match args,hs with
  | [b,f],⟨h1,h2,h3⟩=>
    subst h1;subst h2;obtain ⟨xs,hsl,hm⟩:=ha;exact eI hc dB ⟨.und _ (bW hsl fun x h=>(tu_int x (hD x (hm x h))).1).und,cL h3 rfl (by intro x hx;simp at hx;subst hx;exact hu.und),trivial⟩
 obtain ⟨xs,hs,hm⟩:=ha;refine aG (L:=[entB 275 _ fun _=>.bool (a.els.any fun x=>!p x)]) (elist_cons (entB_ok hb) aH) aM (by kernel_rfl) Tryz.func227 Tryz.ntmps227 Tryz.results227 rfl rfl (aA (bW hs fun x h=>(tu_int x (hD x (hm x h))).1).und (aA hu.und aF)) aJ ?_
 have he:∀ {s:Sto},s.get 0=some (bA 0 [.func (.func g) first cap])->bJ [entB 275 (HB (.func (.func 276) [] [.ptr 0 0 0]) (fun b=>b=a) fun s=>s.get 0=some (bA 0 [.func (.func g) first cap])) fun _=>.bool (a.els.any fun x=>!p x)] 275 [a,.func (.func 276) [] [.ptr 0 0 0]] s=some (.ret (.bool (a.els.any fun x=>!p x)) none):=fun hs=>bO ⟨rfl,rfl,hs⟩
 simp +contextual +decide (maxSteps:=1000000) only [↓ wP,wQ,tf,Nat.reduceAdd,wS,reduceCtorEq,he,hs.cell];rw [<-List.not_all_eq_any_not,Bool.not_not]
theorem YO {g:FuncId} {first cap:List AV} {D:AV->Prop} (hD:∀ x,D x->wK x) (p:AV->Bool) (hu:UnderE 0 (.func (.func g) first cap)) (h:∀ x,D x->Abs.Returns Tryz.prog g (first++[x]++cap) (.bool (p x))) (x:AV) (hDx:D x):
 Abs.Returns Tryz.prog 279 ([]++[x]++[.pf (.func (.func g) first cap)]) (.bool (!p x)):=by
 show Abs.Returns Tryz.prog 279 [x,.pf (.func (.func g) first cap)] (.bool (!p x));refine aG (L:=[lT g first cap D fun x=>.bool (p x)]) (elist_cons (dL h) aH) aM (by kernel_rfl) Tryz.func279 Tryz.ntmps279 Tryz.results279 rfl rfl (aA (tk_val x (hD x hDx)).1.und (aA (bP hu).und aF)) aJ ?_;obtain ⟨_,cs,rfl,hcl,hca⟩:=tk_val x (hD x hDx)
 have hz:0+2<=cs.length:=by omega
 have he:=fun {s:Sto}=>bH (g:=g) (first:=first) (cap:=cap) (D:=D) (p:=fun x=>.bool (p x)) (L:=[]) (s:=s) hDx
 simp +contextual +decide (maxSteps:=1000000) only [↓ wP,wQ,tf,Nat.reduceAdd,wS,reduceCtorEq,he,hcl,hca,bE hcl,hz]
theorem aDr {g:FuncId} {first cap:List AV} {D:AV->Prop} (hD:∀ x,D x->wK x) (p:AV->Bool) (hu:UnderE 0 (.func (.func g) first cap)) (h:∀ x,D x->Abs.Returns Tryz.prog g (first++[x]++cap) (.bool (p x))) {a:AV} (ha:TSl D a):
 Abs.Returns Tryz.prog 231 [a,.func (.func g) first cap] (.bool (a.els.all p)):=by
 have hc:=IH (first:=[]) (cap:=[.pf (.func (.func g) first cap)]) hD (fun x=>!p x) (cC (fun _ h=>nomatch h) (by intro x hx;simp at hx;subst hx;exact bP hu)) (YO hD p hu h) ha
 have hb:∀ args s,HB (.func (.func 279) [] [.ptr 0 0 0]) (fun b=>b=a) (fun s=>s.get 0=some (bA 0 [.func (.func g) first cap])) args s->bL Tryz.prog 278 args s (.ret (.bool (a.els.any fun x=>!p x)) none):=fun args s hs=>by
  match args,hs with
  | [b,f],⟨h1,h2,h3⟩=>
    subst h1;subst h2;obtain ⟨xs,hsl,hm⟩:=ha;exact eI hc dB ⟨.und _ (bW hsl fun x h=>(tk_val x (hD x (hm x h))).1).und,cL h3 rfl (by intro x hx;simp at hx;subst hx;exact hu.und),trivial⟩
 obtain ⟨xs,hs,hm⟩:=ha;refine aG (L:=[entB 278 _ fun _=>.bool (a.els.any fun x=>!p x)]) (elist_cons (entB_ok hb) aH) aM (by kernel_rfl) Tryz.func231 Tryz.ntmps231 Tryz.results231 rfl rfl (aA (bW hs fun x h=>(tk_val x (hD x (hm x h))).1).und (aA hu.und aF)) aJ ?_
 have he:∀ {s:Sto},s.get 0=some (bA 0 [.func (.func g) first cap])->bJ [entB 278 (HB (.func (.func 279) [] [.ptr 0 0 0]) (fun b=>b=a) fun s=>s.get 0=some (bA 0 [.func (.func g) first cap])) fun _=>.bool (a.els.any fun x=>!p x)] 278 [a,.func (.func 279) [] [.ptr 0 0 0]] s=some (.ret (.bool (a.els.any fun x=>!p x)) none):=fun hs=>bO ⟨rfl,rfl,hs⟩
 simp +contextual +decide (maxSteps:=1000000) only [↓ wP,wQ,tf,Nat.reduceAdd,wS,reduceCtorEq,he,hs.cell];rw [<-List.not_all_eq_any_not,Bool.not_not]
theorem aDs {g:FuncId} {first cap:List AV} {D:AV->Prop} (hD:∀ x,D x->QC x) (p:AV->Bool) (hu:UnderE 0 (.func (.func g) first cap)) (h:∀ x,D x->Abs.Returns Tryz.prog g (first++[x]++cap) (.bool (p x))) (x:AV) (hDx:D x):
 Abs.Returns Tryz.prog 333 ([]++[x]++[.pf (.func (.func g) first cap)]) (.bool (!p x)):=by
 show Abs.Returns Tryz.prog 333 [x,.pf (.func (.func g) first cap)] (.bool (!p x));refine aG (L:=[lT g first cap D fun x=>.bool (p x)]) (elist_cons (dL h) aH) aM (by kernel_rfl) Tryz.func333 Tryz.ntmps333 Tryz.results333 rfl rfl (aA (tk_fr x (hD x hDx)).1.und (aA (bP hu).und aF)) aJ ?_;obtain ⟨_,cs,rfl,hcl,hca⟩:=tk_fr x (hD x hDx)
 have hz:0+3<=cs.length:=by omega
 have he:=fun {s:Sto}=>bH (g:=g) (first:=first) (cap:=cap) (D:=D) (p:=fun x=>.bool (p x)) (L:=[]) (s:=s) hDx
 simp +contextual +decide (maxSteps:=1000000) only [↓ wP,wQ,tf,Nat.reduceAdd,wS,reduceCtorEq,he,hcl,hca,bE hcl,hz]
theorem YP {g:FuncId} {first cap:List AV} {D:AV->Prop} (hD:∀ x,D x->QC x) (p:AV->Bool) (hu:UnderE 0 (.func (.func g) first cap)) (h:∀ x,D x->Abs.Returns Tryz.prog g (first++[x]++cap) (.bool (p x))) {a:AV} (ha:TSl D a):
 Abs.Returns Tryz.prog 280 [a,.func (.func g) first cap] (.bool (a.els.all p)):=by
 have hc:=MV (first:=[]) (cap:=[.pf (.func (.func g) first cap)]) hD (fun x=>!p x) (cC (fun _ h=>nomatch h) (by intro x hx;simp at hx;subst hx;exact bP hu)) (aDs hD p hu h) ha
 have hb:∀ args s,HB (.func (.func 333) [] [.ptr 0 0 0]) (fun b=>b=a) (fun s=>s.get 0=some (bA 0 [.func (.func g) first cap])) args s->bL Tryz.prog 332 args s (.ret (.bool (a.els.any fun x=>!p x)) none):=fun args s hs=>by
  match args,hs with
  | [b,f],⟨h1,h2,h3⟩=>
    subst h1;subst h2;obtain ⟨xs,hsl,hm⟩:=ha;exact eI hc dB ⟨.und _ (bW hsl fun x h=>(tk_fr x (hD x (hm x h))).1).und,cL h3 rfl (by intro x hx;simp at hx;subst hx;exact hu.und),trivial⟩
 obtain ⟨xs,hs,hm⟩:=ha;refine aG (L:=[entB 332 _ fun _=>.bool (a.els.any fun x=>!p x)]) (elist_cons (entB_ok hb) aH) aM (by kernel_rfl) Tryz.func280 Tryz.ntmps280 Tryz.results280 rfl rfl (aA (bW hs fun x h=>(tk_fr x (hD x (hm x h))).1).und (aA hu.und aF)) aJ ?_
 have he:∀ {s:Sto},s.get 0=some (bA 0 [.func (.func g) first cap])->bJ [entB 332 (HB (.func (.func 333) [] [.ptr 0 0 0]) (fun b=>b=a) fun s=>s.get 0=some (bA 0 [.func (.func g) first cap])) fun _=>.bool (a.els.any fun x=>!p x)] 332 [a,.func (.func 333) [] [.ptr 0 0 0]] s=some (.ret (.bool (a.els.any fun x=>!p x)) none):=fun hs=>bO ⟨rfl,rfl,hs⟩
 simp +contextual +decide (maxSteps:=1000000) only [↓ wP,wQ,tf,Nat.reduceAdd,wS,reduceCtorEq,he,hs.cell];rw [<-List.not_all_eq_any_not,Bool.not_not]
theorem aDt {g:FuncId} {first cap:List AV} {D:AV->Prop} (hD:∀ x,D x->nC x) (p:AV->Bool) (hu:UnderE 0 (.func (.func g) first cap)) (h:∀ x,D x->Abs.Returns Tryz.prog g (first++[x]++cap) (.bool (p x))) (x:AV) (hDx:D x):
 Abs.Returns Tryz.prog 230 ([]++[x]++[.pf (.func (.func g) first cap)]) (.bool (!p x)):=by
 show Abs.Returns Tryz.prog 230 [x,.pf (.func (.func g) first cap)] (.bool (!p x));refine aG (L:=[lT g first cap D fun x=>.bool (p x)]) (elist_cons (dL h) aH) aM (by kernel_rfl) Tryz.func230 Tryz.ntmps230 Tryz.results230 rfl rfl (aA (tk_ob x (hD x hDx)).1.und (aA (bP hu).und aF)) aJ ?_;obtain ⟨_,cs,rfl,hcl,hca⟩:=tk_ob x (hD x hDx)
 have hz:0+4<=cs.length:=by omega
 have he:=fun {s:Sto}=>bH (g:=g) (first:=first) (cap:=cap) (D:=D) (p:=fun x=>.bool (p x)) (L:=[]) (s:=s) hDx
 simp +contextual +decide (maxSteps:=1000000) only [↓ wP,wQ,tf,Nat.reduceAdd,wS,reduceCtorEq,he,hcl,hca,bE hcl,hz]
theorem aIa {g:FuncId} {first cap:List AV} {D:AV->Prop} (hD:∀ x,D x->nC x) (p:AV->Bool) (hu:UnderE 0 (.func (.func g) first cap)) (h:∀ x,D x->Abs.Returns Tryz.prog g (first++[x]++cap) (.bool (p x))) {a:AV} (ha:TSl D a):
 Abs.Returns Tryz.prog 177 [a,.func (.func g) first cap] (.bool (a.els.all p)):=by
 have hc:=MW (first:=[]) (cap:=[.pf (.func (.func g) first cap)]) hD (fun x=>!p x) (cC (fun _ h=>nomatch h) (by intro x hx;simp at hx;subst hx;exact bP hu)) (aDt hD p hu h) ha
 have hb:∀ args s,HB (.func (.func 230) [] [.ptr 0 0 0]) (fun b=>b=a) (fun s=>s.get 0=some (bA 0 [.func (.func g) first cap])) args s->bL Tryz.prog 229 args s (.ret (.bool (a.els.any fun x=>!p x)) none):=fun args s hs=>by
  match args,hs with
  | [b,f],⟨h1,h2,h3⟩=>
    subst h1;subst h2;obtain ⟨xs,hsl,hm⟩:=ha;exact eI hc dB ⟨.und _ (bW hsl fun x h=>(tk_ob x (hD x (hm x h))).1).und,cL h3 rfl (by intro x hx;simp at hx;subst hx;exact hu.und),trivial⟩
 obtain ⟨xs,hs,hm⟩:=ha;refine aG (L:=[entB 229 _ fun _=>.bool (a.els.any fun x=>!p x)]) (elist_cons (entB_ok hb) aH) aM (by kernel_rfl) Tryz.func177 Tryz.ntmps177 Tryz.results177 rfl rfl (aA (bW hs fun x h=>(tk_ob x (hD x (hm x h))).1).und (aA hu.und aF)) aJ ?_
 have he:∀ {s:Sto},s.get 0=some (bA 0 [.func (.func g) first cap])->bJ [entB 229 (HB (.func (.func 230) [] [.ptr 0 0 0]) (fun b=>b=a) fun s=>s.get 0=some (bA 0 [.func (.func g) first cap])) fun _=>.bool (a.els.any fun x=>!p x)] 229 [a,.func (.func 230) [] [.ptr 0 0 0]] s=some (.ret (.bool (a.els.any fun x=>!p x)) none):=fun hs=>bO ⟨rfl,rfl,hs⟩
 simp +contextual +decide (maxSteps:=1000000) only [↓ wP,wQ,tf,Nat.reduceAdd,wS,reduceCtorEq,he,hs.cell];rw [<-List.not_all_eq_any_not,Bool.not_not]
theorem YQ {g:FuncId} {first cap:List AV} {D:AV->Prop} (hD:∀ x,D x->lB x) (p:AV->Bool) (hu:UnderE 0 (.func (.func g) first cap)) (h:∀ x,D x->Abs.Returns Tryz.prog g (first++[x]++cap) (.bool (p x))) (x:AV) (hDx:D x):
 Abs.Returns Tryz.prog 239 ([]++[x]++[.pf (.func (.func g) first cap)]) (.bool (!p x)):=by
 show Abs.Returns Tryz.prog 239 [x,.pf (.func (.func g) first cap)] (.bool (!p x));refine aG (L:=[lT g first cap D fun x=>.bool (p x)]) (elist_cons (dL h) aH) aM (by kernel_rfl) Tryz.func239 Tryz.ntmps239 Tryz.results239 rfl rfl (aA (tk_out x (hD x hDx)).1.und (aA (bP hu).und aF)) aJ ?_;obtain ⟨_,cs,rfl,hcl,hca⟩:=tk_out x (hD x hDx)
 have hz:0+2<=cs.length:=by omega
 have he:=fun {s:Sto}=>bH (g:=g) (first:=first) (cap:=cap) (D:=D) (p:=fun x=>.bool (p x)) (L:=[]) (s:=s) hDx
 simp +contextual +decide (maxSteps:=1000000) only [↓ wP,wQ,tf,Nat.reduceAdd,wS,reduceCtorEq,he,hcl,hca,bE hcl,hz]
theorem aDu {g:FuncId} {first cap:List AV} {D:AV->Prop} (hD:∀ x,D x->lB x) (p:AV->Bool) (hu:UnderE 0 (.func (.func g) first cap)) (h:∀ x,D x->Abs.Returns Tryz.prog g (first++[x]++cap) (.bool (p x))) {a:AV} (ha:TSl D a):
 Abs.Returns Tryz.prog 180 [a,.func (.func g) first cap] (.bool (a.els.all p)):=by
 have hc:=II (first:=[]) (cap:=[.pf (.func (.func g) first cap)]) hD (fun x=>!p x) (cC (fun _ h=>nomatch h) (by intro x hx;simp at hx;subst hx;exact bP hu)) (YQ hD p hu h) ha
 have hb:∀ args s,HB (.func (.func 239) [] [.ptr 0 0 0]) (fun b=>b=a) (fun s=>s.get 0=some (bA 0 [.func (.func g) first cap])) args s->bL Tryz.prog 238 args s (.ret (.bool (a.els.any fun x=>!p x)) none):=fun args s hs=>by
  match args,hs with
  | [b,f],⟨h1,h2,h3⟩=>
    subst h1;subst h2;obtain ⟨xs,hsl,hm⟩:=ha;exact eI hc dB ⟨.und _ (bW hsl fun x h=>(tk_out x (hD x (hm x h))).1).und,cL h3 rfl (by intro x hx;simp at hx;subst hx;exact hu.und),trivial⟩
 obtain ⟨xs,hs,hm⟩:=ha;refine aG (L:=[entB 238 _ fun _=>.bool (a.els.any fun x=>!p x)]) (elist_cons (entB_ok hb) aH) aM (by kernel_rfl) Tryz.func180 Tryz.ntmps180 Tryz.results180 rfl rfl (aA (bW hs fun x h=>(tk_out x (hD x (hm x h))).1).und (aA hu.und aF)) aJ ?_
 have he:∀ {s:Sto},s.get 0=some (bA 0 [.func (.func g) first cap])->bJ [entB 238 (HB (.func (.func 239) [] [.ptr 0 0 0]) (fun b=>b=a) fun s=>s.get 0=some (bA 0 [.func (.func g) first cap])) fun _=>.bool (a.els.any fun x=>!p x)] 238 [a,.func (.func 239) [] [.ptr 0 0 0]] s=some (.ret (.bool (a.els.any fun x=>!p x)) none):=fun hs=>bO ⟨rfl,rfl,hs⟩
 simp +contextual +decide (maxSteps:=1000000) only [↓ wP,wQ,tf,Nat.reduceAdd,wS,reduceCtorEq,he,hs.cell];rw [<-List.not_all_eq_any_not,Bool.not_not]
theorem YR {g:FuncId} {first cap:List AV} {D:AV->Prop} (hD:∀ x,D x->cM x) (p:AV->Bool) (hu:UnderE 0 (.func (.func g) first cap)) (h:∀ x,D x->Abs.Returns Tryz.prog g (first++[x]++cap) (.bool (p x))) (x:AV) (hDx:D x):
 Abs.Returns Tryz.prog 283 ([]++[x]++[.pf (.func (.func g) first cap)]) (.bool (!p x)):=by
 show Abs.Returns Tryz.prog 283 [x,.pf (.func (.func g) first cap)] (.bool (!p x));refine aG (L:=[lT g first cap D fun x=>.bool (p x)]) (elist_cons (dL h) aH) aM (by kernel_rfl) Tryz.func283 Tryz.ntmps283 Tryz.results283 rfl rfl (aA (tu_int x (hD x hDx)).1.und (aA (bP hu).und aF)) aJ ?_;have hca:=(tu_int x (hD x hDx)).2
 have he:=fun {s:Sto}=>bH (g:=g) (first:=first) (cap:=cap) (D:=D) (p:=fun x=>.bool (p x)) (L:=[]) (s:=s) hDx
 simp +contextual +decide (maxSteps:=1000000) only [↓ wP,wQ,tf,Nat.reduceAdd,wS,reduceCtorEq,he,hca]
theorem aDv {g:FuncId} {first cap:List AV} {D:AV->Prop} (hD:∀ x,D x->cM x) (p:AV->Bool) (hu:UnderE 0 (.func (.func g) first cap)) (h:∀ x,D x->Abs.Returns Tryz.prog g (first++[x]++cap) (.bool (p x))) {a:AV} (ha:TSl D a):
 Abs.Returns Tryz.prog 235 [a,.func (.func g) first cap] (.bool (a.els.all p)):=by
 have hc:=xQ (first:=[]) (cap:=[.pf (.func (.func g) first cap)]) hD (fun x=>!p x) (cC (fun _ h=>nomatch h) (by intro x hx;simp at hx;subst hx;exact bP hu)) (YR hD p hu h) ha
 have hb:∀ args s,HB (.func (.func 283) [] [.ptr 0 0 0]) (fun b=>b=a) (fun s=>s.get 0=some (bA 0 [.func (.func g) first cap])) args s->bL Tryz.prog 275 args s (.ret (.bool (a.els.any fun x=>!p x)) none):=fun args s hs=>by
  match args,hs with
  | [b,f],⟨h1,h2,h3⟩=>
    subst h1;subst h2;obtain ⟨xs,hsl,hm⟩:=ha;exact eI hc dB ⟨.und _ (bW hsl fun x h=>(tu_int x (hD x (hm x h))).1).und,cL h3 rfl (by intro x hx;simp at hx;subst hx;exact hu.und),trivial⟩
 obtain ⟨xs,hs,hm⟩:=ha;refine aG (L:=[entB 275 _ fun _=>.bool (a.els.any fun x=>!p x)]) (elist_cons (entB_ok hb) aH) aM (by kernel_rfl) Tryz.func235 Tryz.ntmps235 Tryz.results235 rfl rfl (aA (bW hs fun x h=>(tu_int x (hD x (hm x h))).1).und (aA hu.und aF)) aJ ?_
 have he:∀ {s:Sto},s.get 0=some (bA 0 [.func (.func g) first cap])->bJ [entB 275 (HB (.func (.func 283) [] [.ptr 0 0 0]) (fun b=>b=a) fun s=>s.get 0=some (bA 0 [.func (.func g) first cap])) fun _=>.bool (a.els.any fun x=>!p x)] 275 [a,.func (.func 283) [] [.ptr 0 0 0]] s=some (.ret (.bool (a.els.any fun x=>!p x)) none):=fun hs=>bO ⟨rfl,rfl,hs⟩
 simp +contextual +decide (maxSteps:=1000000) only [↓ wP,wQ,tf,Nat.reduceAdd,wS,reduceCtorEq,he,hs.cell];rw [<-List.not_all_eq_any_not,Bool.not_not]
end
end Go.Proofs.YtifmdaalhclhgaaGreat
