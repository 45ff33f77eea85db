/-
  Programs, worlds and states, in plain words, as they lie in the machine.
-/
import Derived.Test.YtdipddlhenoglaaGreatEy
import Derived.Test.YtdipddlhenoglaaGreatEp
import Derived.Test.YtdipddlhenoglaaGreatEt
import Derived.Test.YtdipddlhenoglaaGreatTf
set_option linter.unusedVariables false
set_option linter.unusedSimpArgs false
namespace Go.Abs
noncomputable section
theorem wS:type_of% (And.intro @ne_eq.{1} (And.intro @if_true.{1} (And.intro @if_true.{0} (And.intro @if_false.{1} (And.intro @if_false.{0} (And.intro @aNh (And.intro @wgu (And.intro @wB (And.intro @wC (And.intro @Bool.false_and (And.intro @Bool.true_and (And.intro @Bool.and_false (And.intro @Bool.and_true (And.intro @decide_true (@decide_false))))))))))))))):=And.intro @ne_eq.{1} (And.intro @if_true.{1} (And.intro @if_true.{0} (And.intro @if_false.{1} (And.intro @if_false.{0} (And.intro @aNh (And.intro @wgu (And.intro @wB (And.intro @wC (And.intro @Bool.false_and (And.intro @Bool.true_and (And.intro @Bool.and_false (And.intro @Bool.and_true (And.intro @decide_true (@decide_false))))))))))))))
theorem wT:type_of% (And.intro @if_true.{1} (And.intro @if_true.{0} (And.intro @if_false.{1} (And.intro @if_false.{0} (And.intro @decide_true (And.intro @decide_false (And.intro @Bool.false_and (And.intro @Bool.true_and (And.intro @Bool.and_false (And.intro @Bool.and_true (And.intro @Bool.not_true (And.intro @Bool.not_false (And.intro @Bool.or_false (And.intro @Bool.false_or (And.intro @Bool.true_or (And.intro @Bool.or_true (And.intro @List.getD_cons_zero.{0} (@List.getD_cons_succ.{0})))))))))))))))))):=And.intro @if_true.{1} (And.intro @if_true.{0} (And.intro @if_false.{1} (And.intro @if_false.{0} (And.intro @decide_true (And.intro @decide_false (And.intro @Bool.false_and (And.intro @Bool.true_and (And.intro @Bool.and_false (And.intro @Bool.and_true (And.intro @Bool.not_true (And.intro @Bool.not_false (And.intro @Bool.or_false (And.intro @Bool.false_or (And.intro @Bool.true_or (And.intro @Bool.or_true (And.intro @List.getD_cons_zero.{0} (@List.getD_cons_succ.{0})))))))))))))))))
end
end Go.Abs
namespace Go.Proofs.YtdipddlhenoglaaGreat
open Go.Abs Go
noncomputable section
set_option maxRecDepth 10000
abbrev gG:=TSl cM
abbrev vQ:=T2 cM cM
abbrev kI:=TSl vQ
abbrev TFr:=T3 cM kI kI
abbrev BP:=TSl TFr
abbrev yR:=T4 cM cM kI BP
abbrev vR:=T2 cM cM
abbrev KI:=T5 (TSl yR) gG (TSl vR) gG cM
def TPatN:Nat->AV->Prop
 | 0,_=>False
 | d+1,a=>T4 cM cM qO (TSl (TPatN d)) a
def uK (a:AV):Prop:=∃ d,TPatN d a
abbrev dU:=T4 cM cM gG (TSl uK)
abbrev xS:=T2 qO cM
abbrev qK:=TSl xS
abbrev fM:=T4 (TSl dU) gG cM qK
theorem TSl.mono {A B:AV->Prop} (h:∀ a,A a->B a) {a:AV} (ha:TSl A a):TSl B a:=by
 obtain ⟨xs,h1,h2⟩:=ha;exact ⟨xs,h1,fun x hx=>h x (h2 x hx)⟩
theorem TPatN.succ:∀ (d:Nat) (a:AV),TPatN d a->TPatN (d+1) a
 | 0,_,h=>h.elim
 | d+1,_,⟨x,y,z,u,e,h1,h2,h3,h4⟩=>⟨x,y,z,u,e,h1,h2,h3,TSl.mono (TPatN.succ d) h4⟩
theorem TPatN.le {d d':Nat} (hd:d<=d') {a:AV} (h:TPatN d a):TPatN d' a:=by
 induction hd with
 | refl=>exact h
 | step _ ih=>exact TPatN.succ _ _ ih
theorem aU:Tu gG:=iP (BR tu_int)
theorem tk_val:Tk 2 vQ:=tk2 tu_int tu_int
theorem tu_vals:Tu kI:=iP (jI tk_val)
theorem tk_fr:Tk 3 TFr:=tk3 tu_int tu_vals tu_vals
theorem gW:Tu BP:=iP (jI tk_fr)
theorem tk_ob:Tk 4 yR:=tk4 tu_int tu_int tu_vals gW
theorem nK:Tu (TSl yR):=iP (jI tk_ob)
theorem tk_out:Tk 2 vR:=tk2 tu_int tu_int
theorem jU:Tu (TSl vR):=iP (jI tk_out)
theorem mS:Tk 5 KI:=tk5 nK aU jU aU tu_int
theorem bZ:∀ d,Tk 4 (TPatN d)
 | 0=>fun _ h=>h.elim
 | d+1=>tk4 tu_int tu_int tu_str (iP (jI (bZ d)))
theorem tk_pat:Tk 4 uK:=fun a ⟨d,h⟩=>bZ d a h
theorem eS:Tu (TSl uK):=iP (jI tk_pat)
theorem tk_node:Tk 4 dU:=tk4 tu_int tu_int aU eS
theorem dM:Tu (TSl dU):=iP (jI tk_node)
theorem tk_con:Tk 2 xS:=tk2 tu_str tu_int
theorem dN:Tu qK:=iP (jI tk_con)
theorem cE:Tk 4 fM:=tk4 dM aU tu_int dN
def inR (n l h:Int):Bool:=decide (l<=n)&&decide (n<=h)
def oH (n:Int):Bool:=inR n (-1000000000) 1000000000
def jG (nf no:Int) (v:AV):Bool:=
 if (v.fld 0).num=1 then oH (v.fld 1).num else if (v.fld 0).num=2 then inR (v.fld 1).num 0 1 else if (v.fld 0).num=3 then decide ((v.fld 1).num=0)
 else if (v.fld 0).num=4 then inR (v.fld 1).num 0 (nf-1) else if (v.fld 0).num=5 then inR (v.fld 1).num 0 (no-1) else false
def eB (nf no:Int) (most:Int) (l:List AV):Bool:=decide ((l.length:Int)<=most)&&l.all (jG nf no)
def dV (n:AV):Int:=
 if (n.fld 0).num∈[6,9,10,11,12,13,18,22] then 2 else if (n.fld 0).num=14 then (n.fld 2).els.length
 else if (n.fld 0).num∈[7,8,16,17,15,19,20,23,24,26] then 1 else 0
def dQ (ns:List AV) (n:Int):AV:=ns.getD n.toNat .top
def OW (ns:List AV) (nf no:Int) (f:AV):Bool:=
 inR (f.fld 0).num 0 ((ns.length:Int)-1)&&eB nf no 30 (f.fld 1).els&&eB nf no (dV (dQ ns (f.fld 0).num)) (f.fld 2).els
def nL (ns:List AV) (nf no:Int) (l:List AV):Bool:=decide (l.length<=40)&&l.all (OW ns nf no)
def kJ (ns:List AV) (f:AV):Bool:=decide (((f.fld 2).els.length:Int)<dV (dQ ns (f.fld 0).num))
def jH (os:List AV) (k:Int):Bool:=inR k 0 ((os.length:Int)-1)&&decide (((os.getD k.toNat .top).fld 0).num=6)
def cX (os:List AV):Nat:=(os.filter fun o=>decide ((o.fld 0).num=6)).length
def xT (o:AV):Bool:=inR (o.fld 0).num 0 3&&oH (o.fld 1).num
end
end Go.Proofs.YtdipddlhenoglaaGreat
/-
 Whether something is so of all elements of a list: the functions that take it as a function.
-/
namespace Go.Abs
noncomputable section
theorem aAv {P:Program} {O:bM} {H:cU} {c:Code} {nt:Nat} {fn:FuncId} {t0:Tr AV} {s:Sto} {Q:Ex->Env->Prop} (I:Nat->Tr AV->Prop) (m:Nat->Nat) (h0:I 0 t0)
 (hs:∀ i t,I i t->Wk P O H c ⟨nt,none,fn,t,[],s,.no⟩ (CF (fun i e=>∃ t,e=⟨nt,none,fn,t,[],s,.no⟩/\I i t) m i Q)):Wk P O H (.loop c) ⟨nt,none,fn,t0,[],s,.no⟩ Q:=
 aP (fun i e=>∃ t,e=⟨nt,none,fn,t,[],s,.no⟩/\I i t) m 0 ⟨_,rfl,h0⟩ fun i e ⟨t,he,h⟩=>by subst he;exact hs i t h
end
end Go.Abs
namespace Go.Proofs.YtdipddlhenoglaaGreat
open Go.Abs Go Go.Abs.TryzF
noncomputable section
set_option maxRecDepth 10000
def KJ (F:FuncId) (T:AV->Prop):Prop:=∀ {g:FuncId} {first cap:List AV} {D:AV->Prop},(∀ x,D x->T x)->∀ (p:AV->Bool),UnderE 0 (.func (.func g) first cap)->(∀ x,D x->Abs.Returns Tryz.prog g (first++[x]++cap) (.bool (p x)))->∀ {a:AV},TSl D a->Abs.Returns Tryz.prog F [a,.func (.func g) first cap] (.int .i64 (rG p a.els 0))
def KK (F:FuncId) (T:AV->Prop):Prop:=∀ {g:FuncId} {first cap:List AV} {D:AV->Prop},(∀ x,D x->T x)->∀ (p:AV->Bool),UnderE 0 (.func (.func g) first cap)->(∀ x,D x->Abs.Returns Tryz.prog g (first++[x]++cap) (.bool (p x)))->∀ {a:AV},TSl D a->Abs.Returns Tryz.prog F [a,.func (.func g) first cap] (.bool (a.els.any p))
def HF (F:FuncId) (T:AV->Prop):Prop:=∀ {g:FuncId} {first cap:List AV} {D:AV->Prop},(∀ x,D x->T x)->∀ (p:AV->Bool),UnderE 0 (.func (.func g) first cap)->(∀ x,D x->Abs.Returns Tryz.prog g (first++[x]++cap) (.bool (p x)))->∀ {a:AV},TSl D a->Abs.Returns Tryz.prog F [a,.func (.func g) first cap] (.bool (a.els.all p))
def HG (F:FuncId) (T:AV->Prop):Prop:=∀ {g:FuncId} {first cap:List AV} {D:AV->Prop},(∀ x,D x->T x)->∀ (p:AV->Bool),UnderE 0 (.func (.func g) first cap)->(∀ x,D x->Abs.Returns Tryz.prog g (first++[x]++cap) (.bool (p x)))->∀ x,D x->Abs.Returns Tryz.prog F ([]++[x]++[.pf (.func (.func g) first cap)]) (.bool (!p x))
theorem yS {A B C D p:Prop} (x:A) (y:B) (z:C) (w:D) (h:A->B->C->D->p:=by
 rename_i g first cap D
 intro f1 f2 f3 tk hD p hu h a ha
 obtain ⟨xs,hs,hx⟩:=ha
 have hl:=hs.2
 refine aH (L:=[aBl g first cap D fun x=>.bool (p x)]) (elist_cons (zU h) aG) aM (by kernel_rfl) f1 f2 f3 rfl rfl (aA (nM hs fun x hm=>(tk x (hD x (hx x hm))).1).und (aA hu.und aF)) aS ?_
 rw [hs.els]
 simp +contextual +decide (maxSteps:=1000000) only [↓ wP,wQ,tf,Nat.reduceAdd,wS,reduceCtorEq,hs.len]
 refine aAv (fun i t=>t.val 0=a/\t.val 1=.func (.func g) first cap/\t.val 7=.int .i64 (xs.length:Nat)/\t.val 8=.int .i64 (i:Nat)/\i<=xs.length/\rG p xs 0=rG p (xs.drop i) i) (fun i=>xs.length-i) ⟨by simp +decide only [↓ aB,aE,aC],by simp +decide only [↓ aB,aE,aC],by simp +decide only [↓ aB,aE,aC],by simp +decide only [↓ aB,aE,aC];rfl,Nat.zero_le _,rfl⟩ ?_
 rintro i t ⟨t0,t1,t7,t8,hi,hq⟩
 rcases Nat.lt_or_ge i xs.length with hlt | hge
 ·obtain ⟨x,hDx,hm,hg,hd,hix,hw,hc⟩:=bK (fun x h=>tk.len (hD x h)) hx hl hlt
  rw [hd,rG]at hq
  have hpf:=fun {d:Option AV}=>tk.pf (hD x hDx) (d:=d)
  cases hp:p x with
  | true=>
    rw [hp,if_pos rfl]at hq
    simp +contextual +decide (maxSteps:=1000000) only [↓ wP,wQ,tf,Nat.reduceAdd,wS,reduceCtorEq,t0,t1,t7,t8,hs.idx,hix,hc,hpf,oJ hDx,hp,hq]
  | false=>
    rw [hp,if_neg (by decide)]at hq
    simp +contextual +decide (maxSteps:=1000000) only [↓ wP,wQ,tf,Nat.reduceAdd,wS,reduceCtorEq,t0,t1,t7,t8,hs.idx,hix,hc,hpf,oJ hDx,hp,hw]
    exact ⟨i+1,by show _-_<_-_;omega,_,rfl,by simp +decide only [↓ aB,aE,aC,t0],by simp +decide only [↓ aB,aE,aC,t1],by simp +decide only [↓ aB,aE,aC,t7],by simp +decide only [↓ aB,aE,aC],hlt,hq⟩
 ·obtain rfl:i=xs.length:=Nat.le_antisymm hi hge
  rw [List.drop_length,rG]at hq
  simp +contextual +decide (maxSteps:=1000000) only [↓ wP,wQ,tf,Nat.reduceAdd,wS,reduceCtorEq,t0,t1,t7,t8,bE,hq]):p:=h x y z w
theorem yT {A B C D E p:Prop} (x:A) (y:B) (z:C) (w:D) (v:E) (h:A->B->C->D->E->p:=by
 rename_i g first cap D
 intro hI f1 f2 f3 tk hD p hu h a ha
 have hx:=hI hD p hu h ha
 obtain ⟨xs,hs,hm⟩:=ha
 refine aH (elist_cons (bG hx) aG) aM (by kernel_rfl) f1 f2 f3 rfl rfl (aA (nM hs fun x h=>(tk x (hD x (hm x h))).1).und (aA hu.und aF)) aL ?_
 simp +contextual +decide (maxSteps:=1000000) only [↓ wP,wQ,tf,Nat.reduceAdd,wS,reduceCtorEq,eC]
 rw [BS]):p:=h x y z w v
theorem BQ {A B C D p:Prop} (x:A) (y:B) (z:C) (w:D) (h:A->B->C->D->p:=by
 rename_i g first cap D
 intro f1 f2 f3 tk hD p hu h x hDx
 refine aH (elist_cons (zU h) aG) aM (by kernel_rfl) f1 f2 f3 rfl rfl (aA (tk x (hD x hDx)).1.und (aA (jK hu).und aF)) aL ?_
 have he:=fun {s:Sto}=>oJ (g:=g) (first:=first) (cap:=cap) (D:=D) (p:=fun x=>.bool (p x)) (L:=[]) (s:=s) hDx
 obtain ⟨_,cs,rfl,hcl,hca⟩:=tk x (hD x hDx)
 have hz:=Nat.le_of_eq ((Nat.zero_add _).trans hcl.symm)
 simp +contextual +decide (maxSteps:=1000000) only [↓ wP,wQ,tf,Nat.reduceAdd,wS,reduceCtorEq,he,hcl,hca,fN hcl,hz]):p:=h x y z w
theorem aAw {A B C p:Prop} (x:A) (y:B) (z:C) (h:A->B->C->p:=by
 rename_i g first cap D
 intro f1 f2 f3 hD p hu h x hDx
 refine aH (elist_cons (zU h) aG) aM (by kernel_rfl) f1 f2 f3 rfl rfl (aA (tu_int x (hD x hDx)).1.und (aA (jK hu).und aF)) aL ?_
 have he:=fun {s:Sto}=>oJ (g:=g) (first:=first) (cap:=cap) (D:=D) (p:=fun x=>.bool (p x)) (L:=[]) (s:=s) hDx
 have hca:=(tu_int x (hD x hDx)).2
 simp +contextual +decide (maxSteps:=1000000) only [↓ wP,wQ,tf,Nat.reduceAdd,wS,reduceCtorEq,he,hca]):p:=h x y z
section
variable {F C g:FuncId} {first cap:List AV} {a:AV} {r:Bool}
theorem aNd (hua:UnderE 0 a) (hu:UnderE 0 (.func (.func g) first cap)) (hc:Abs.Returns Tryz.prog C [a,.func (.func F) [] [.pf (.func (.func g) first cap)]] (.bool r)):∀ args s,onL (.func (.func F) [] [.ptr 0 0 0]) (fun b=>b=a) (fun s=>s.get 0=some (aX 0 [.func (.func g) first cap])) args s->bU Tryz.prog C args s (.ret (.bool r) none):=fun args s hs=>by
 match args,hs with
 | [b,f],⟨h1,h2,h3⟩=>
   subst h1;subst h2
   exact sR hc oI ⟨.und _ hua.und,lE h3 rfl (by intro x hx;simp at hx;subst hx;exact hu.und),trivial⟩
theorem aNe {s:Sto} (hs:s.get 0=some (aX 0 [.func (.func g) first cap])):orcL [entB C (onL (.func (.func F) [] [.ptr 0 0 0]) (fun b=>b=a) fun s=>s.get 0=some (aX 0 [.func (.func g) first cap])) fun _=>.bool r] C [a,.func (.func F) [] [.ptr 0 0 0]] s=some (.ret (.bool r) none):=iF ⟨rfl,rfl,hs⟩
end
theorem vS {A B C D E F p:Prop} (x:A) (y:B) (z:C) (w:D) (v:E) (u:F) (h:A->B->C->D->E->F->p:=by
 rename_i g first cap D
 intro hC hN f1 f2 f3 tk hD p hu h a ha
 have hc:=hC (first:=[]) (cap:=[.pf (.func (.func g) first cap)]) hD (fun x=>!p x) (iG (fun _ h=>nomatch h) (by intro x hx;simp at hx;subst hx;exact jK hu)) (hN hD p hu h) ha
 obtain ⟨xs,hs,hm⟩:=ha
 have hua:=nM hs fun x h=>(tk x (hD x (hm x h))).1
 refine aH (L:=[entB _ _ fun _=>.bool (a.els.any fun x=>!p x)]) (elist_cons (entB_ok (aNd hua hu hc)) aG) aM (by kernel_rfl) f1 f2 f3 rfl rfl (aA hua.und (aA hu.und aF)) aL ?_
 simp +contextual +decide (maxSteps:=1000000) only [↓ wP,wQ,tf,Nat.reduceAdd,wS,reduceCtorEq,aNe,hs.cell]
 rw [<-List.not_all_eq_any_not,Bool.not_not]):p:=h x y z w v u
theorem aAx:KJ 334 vQ:=yS Tryz.func334 Tryz.ntmps334 Tryz.results334 @tk_val
theorem KL:KK 299 vQ:=yT @aAx Tryz.func299 Tryz.ntmps299 Tryz.results299 @tk_val
theorem aGd:KJ 366 TFr:=yS Tryz.func366 Tryz.ntmps366 Tryz.results366 @tk_fr
theorem OX:KK 335 TFr:=yT @aGd Tryz.func335 Tryz.ntmps335 Tryz.results335 @tk_fr
theorem aGe:KJ 298 yR:=yS Tryz.func298 Tryz.ntmps298 Tryz.results298 @tk_ob
theorem OY:KK 239 yR:=yT @aGe Tryz.func239 Tryz.ntmps239 Tryz.results239 @tk_ob
theorem aAy:KJ 306 vR:=yS Tryz.func306 Tryz.ntmps306 Tryz.results306 @tk_out
theorem KM:KK 248 vR:=yT @aAy Tryz.func248 Tryz.ntmps248 Tryz.results248 @tk_out
theorem aAz:KJ 116 cM:=yS Tryz.func116 Tryz.ntmps116 Tryz.results116 @tu_int
theorem yU:KK 72 cM:=yT @aAz Tryz.func72 Tryz.ntmps72 Tryz.results72 @tu_int
theorem aBa:KJ 328 xS:=yS Tryz.func328 Tryz.ntmps328 Tryz.results328 @tk_con
theorem KN:KK 286 xS:=yT @aBa Tryz.func286 Tryz.ntmps286 Tryz.results286 @tk_con
theorem VH:KJ 330 dU:=yS Tryz.func330 Tryz.ntmps330 Tryz.results330 @tk_node
theorem HJ:KK 289 dU:=yT @VH Tryz.func289 Tryz.ntmps289 Tryz.results289 @tk_node
theorem aBb:KJ 365 uK:=yS Tryz.func365 Tryz.ntmps365 Tryz.results365 @tk_pat
theorem KO:KK 332 uK:=yT @aBb Tryz.func332 Tryz.ntmps332 Tryz.results332 @tk_pat
theorem aBc:HG 287 xS:=BQ Tryz.func287 Tryz.ntmps287 Tryz.results287 @tk_con
theorem aGf:HF 230 xS:=vS @KN @aBc Tryz.func230 Tryz.ntmps230 Tryz.results230 @tk_con
theorem VI:HG 290 dU:=BQ Tryz.func290 Tryz.ntmps290 Tryz.results290 @tk_node
theorem aBd:HF 235 dU:=vS @HJ @VI Tryz.func235 Tryz.ntmps235 Tryz.results235 @tk_node
theorem aBe:HG 333 uK:=BQ Tryz.func333 Tryz.ntmps333 Tryz.results333 @tk_pat
theorem SF:HF 296 uK:=vS @KO @aBe Tryz.func296 Tryz.ntmps296 Tryz.results296 @tk_pat
theorem aBf:HG 297 cM:=aAw Tryz.func297 Tryz.ntmps297 Tryz.results297
theorem aGg:HF 237 cM:=vS @yU @aBf Tryz.func237 Tryz.ntmps237 Tryz.results237 @tu_int
theorem aBg:HG 300 vQ:=BQ Tryz.func300 Tryz.ntmps300 Tryz.results300 @tk_val
theorem aGh:HF 241 vQ:=vS @KL @aBg Tryz.func241 Tryz.ntmps241 Tryz.results241 @tk_val
theorem aGi:HG 336 TFr:=BQ Tryz.func336 Tryz.ntmps336 Tryz.results336 @tk_fr
theorem aBh:HF 301 TFr:=vS @OX @aGi Tryz.func301 Tryz.ntmps301 Tryz.results301 @tk_fr
theorem aGj:HG 240 yR:=BQ Tryz.func240 Tryz.ntmps240 Tryz.results240 @tk_ob
theorem aJy:HF 182 yR:=vS @OY @aGj Tryz.func182 Tryz.ntmps182 Tryz.results182 @tk_ob
theorem aBi:HG 249 vR:=BQ Tryz.func249 Tryz.ntmps249 Tryz.results249 @tk_out
theorem aGk:HF 185 vR:=vS @KM @aBi Tryz.func185 Tryz.ntmps185 Tryz.results185 @tk_out
theorem aBj:HG 304 cM:=aAw Tryz.func304 Tryz.ntmps304 Tryz.results304
theorem aGl:HF 245 cM:=vS @yU @aBj Tryz.func245 Tryz.ntmps245 Tryz.results245 @tu_int
end
end Go.Proofs.YtdipddlhenoglaaGreat
