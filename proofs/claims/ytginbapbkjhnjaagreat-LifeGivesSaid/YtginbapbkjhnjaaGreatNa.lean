/-
  Programs, worlds and states, in plain words, as they lie in the machine.
-/
import Derived.Test.YtginbapbkjhnjaaGreatEy
import Derived.Test.YtginbapbkjhnjaaGreatEp
import Derived.Test.YtginbapbkjhnjaaGreatEt
import Derived.Test.YtginbapbkjhnjaaGreatTf
set_option linter.unusedVariables false
set_option linter.unusedSimpArgs false
namespace Go.Abs
noncomputable section
theorem wS:type_of% (And.intro @ne_eq.{1} (And.intro @if_true.{1} (And.intro @if_true.{0} (And.intro @if_false.{1} (And.intro @if_false.{0} (And.intro @aIc (And.intro @wgu (And.intro @tI (And.intro @tJ (And.intro @Bool.false_and (And.intro @Bool.true_and (And.intro @Bool.and_false (And.intro @Bool.and_true (And.intro @decide_true (@decide_false))))))))))))))):=And.intro @ne_eq.{1} (And.intro @if_true.{1} (And.intro @if_true.{0} (And.intro @if_false.{1} (And.intro @if_false.{0} (And.intro @aIc (And.intro @wgu (And.intro @tI (And.intro @tJ (And.intro @Bool.false_and (And.intro @Bool.true_and (And.intro @Bool.and_false (And.intro @Bool.and_true (And.intro @decide_true (@decide_false))))))))))))))
theorem wT:type_of% (And.intro @if_true.{1} (And.intro @if_true.{0} (And.intro @if_false.{1} (And.intro @if_false.{0} (And.intro @decide_true (And.intro @decide_false (And.intro @Bool.false_and (And.intro @Bool.true_and (And.intro @Bool.and_false (And.intro @Bool.and_true (And.intro @Bool.not_true (And.intro @Bool.not_false (And.intro @Bool.or_false (And.intro @Bool.false_or (And.intro @Bool.true_or (And.intro @Bool.or_true (And.intro @List.getD_cons_zero.{0} (@List.getD_cons_succ.{0})))))))))))))))))):=And.intro @if_true.{1} (And.intro @if_true.{0} (And.intro @if_false.{1} (And.intro @if_false.{0} (And.intro @decide_true (And.intro @decide_false (And.intro @Bool.false_and (And.intro @Bool.true_and (And.intro @Bool.and_false (And.intro @Bool.and_true (And.intro @Bool.not_true (And.intro @Bool.not_false (And.intro @Bool.or_false (And.intro @Bool.false_or (And.intro @Bool.true_or (And.intro @Bool.or_true (And.intro @List.getD_cons_zero.{0} (@List.getD_cons_succ.{0})))))))))))))))))
end
end Go.Abs
namespace Go.Proofs.YtginbapbkjhnjaaGreat
open Go.Abs Go
noncomputable section
set_option maxRecDepth 10000
abbrev fF:=TSl cD
abbrev zU:=T2 cD cD
abbrev kI:=TSl zU
abbrev IS:=T3 cD kI kI
abbrev yD:=TSl IS
abbrev vM:=T4 cD cD kI yD
abbrev oP:=T2 cD cD
abbrev AX:=T5 (TSl vM) fF (TSl oP) fF cD
def TPatN:Nat->AV->Prop
 | 0,_=>False
 | d+1,a=>T4 cD cD oQ (TSl (TPatN d)) a
def rT (a:AV):Prop:=∃ d,TPatN d a
abbrev dL:=T4 cD cD fF (TSl rT)
abbrev rU:=T2 oQ cD
abbrev oL:=TSl rU
abbrev fG:=T4 (TSl dL) fF cD oL
theorem TSl.mono {A B:AV->Prop} (h:∀ a,A a->B a) {a:AV} (ha:TSl A a):TSl B a:=by
 obtain ⟨xs,h1,h2⟩:=ha;exact ⟨xs,h1,fun x hx=>h x (h2 x hx)⟩
theorem TPatN.succ:∀ (d:Nat) (a:AV),TPatN d a->TPatN (d+1) a
 | 0,_,h=>h.elim
 | d+1,_,⟨x,y,z,u,e,h1,h2,h3,h4⟩=>⟨x,y,z,u,e,h1,h2,h3,TSl.mono (TPatN.succ d) h4⟩
theorem TPatN.le {d d':Nat} (hd:d<=d') {a:AV} (h:TPatN d a):TPatN d' a:=by
 induction hd with
 | refl=>exact h
 | step _ ih=>exact TPatN.succ _ _ ih
theorem aP:Tu fF:=gM (yF tu_int)
theorem tk_val:Tk 2 zU:=tk2 tu_int tu_int
theorem aT:Tu kI:=gM (gV tk_val)
theorem tk_fr:Tk 3 IS:=tk3 tu_int aT aT
theorem fL:Tu yD:=gM (gV tk_fr)
theorem tk_ob:Tk 4 vM:=tk4 tu_int tu_int aT fL
theorem fM:Tu (TSl vM):=gM (gV tk_ob)
theorem tk_out:Tk 2 oP:=tk2 tu_int tu_int
theorem cV:Tu (TSl oP):=gM (gV tk_out)
theorem eR:Tk 5 AX:=tk5 fM aP cV aP tu_int
theorem bS:∀ d,Tk 4 (TPatN d)
 | 0=>fun _ h=>h.elim
 | d+1=>tk4 tu_int tu_int tu_str (gM (gV (bS d)))
theorem tk_pat:Tk 4 rT:=fun a ⟨d,h⟩=>bS d a h
theorem eG:Tu (TSl rT):=gM (gV tk_pat)
theorem tk_node:Tk 4 dL:=tk4 tu_int tu_int aP eG
theorem cT:Tu (TSl dL):=gM (gV tk_node)
theorem tk_con:Tk 2 rU:=tk2 tu_str tu_int
theorem cW:Tu oL:=gM (gV tk_con)
theorem cX:Tk 4 fG:=tk4 cT aP tu_int cW
def inR (n l h:Int):Bool:=decide (l<=n)&&decide (n<=h)
def mL (n:Int):Bool:=inR n (-1000000000) 1000000000
def lR (nf no:Int) (v:AV):Bool:=
 if (v.fld 0).num=1 then mL (v.fld 1).num else if (v.fld 0).num=2 then inR (v.fld 1).num 0 1 else if (v.fld 0).num=3 then decide ((v.fld 1).num=0)
 else if (v.fld 0).num=4 then inR (v.fld 1).num 0 (nf-1) else if (v.fld 0).num=5 then inR (v.fld 1).num 0 (no-1) else false
def eB (nf no:Int) (most:Int) (l:List AV):Bool:=decide ((l.length:Int)<=most)&&l.all (lR nf no)
def dM (n:AV):Int:=
 if (n.fld 0).num∈[6,9,10,11,12,13,18,22] then 2 else if (n.fld 0).num=14 then (n.fld 2).els.length
 else if (n.fld 0).num∈[7,8,16,17,15,19,20,23,24,26] then 1 else 0
def dG (ns:List AV) (n:Int):AV:=ns.getD n.toNat .top
def VD (ns:List AV) (nf no:Int) (f:AV):Bool:=
 inR (f.fld 0).num 0 ((ns.length:Int)-1)&&eB nf no 30 (f.fld 1).els&&eB nf no (dM (dG ns (f.fld 0).num)) (f.fld 2).els
def mM (ns:List AV) (nf no:Int) (l:List AV):Bool:=decide (l.length<=40)&&l.all (VD ns nf no)
def iV (ns:List AV) (f:AV):Bool:=decide (((f.fld 2).els.length:Int)<dM (dG ns (f.fld 0).num))
def jH (os:List AV) (k:Int):Bool:=inR k 0 ((os.length:Int)-1)&&decide (((os.getD k.toNat .top).fld 0).num=6)
def cN (os:List AV):Nat:=(os.filter fun o=>decide ((o.fld 0).num=6)).length
def uN (o:AV):Bool:=inR (o.fld 0).num 0 3&&mL (o.fld 1).num
end
end Go.Proofs.YtginbapbkjhnjaaGreat
/-
 Whether something is so of all elements of a list: the functions that take it as a function.
-/
namespace Go.Abs
noncomputable section
theorem VE {P:Program} {O:Orc} {H:cO} {c:Code} {nt:Nat} {fn:FuncId} {t0:Tr AV} {s:Sto} {Q:Ex->Env->Prop} (I:Nat->Tr AV->Prop) (m:Nat->Nat) (h0:I 0 t0)
 (hs:∀ i t,I i t->Wk P O H c ⟨nt,none,fn,t,[],s,.no⟩ (vV (fun i e=>∃ t,e=⟨nt,none,fn,t,[],s,.no⟩/\I i t) m i Q)):Wk P O H (.loop c) ⟨nt,none,fn,t0,[],s,.no⟩ Q:=
 bA (fun i e=>∃ t,e=⟨nt,none,fn,t,[],s,.no⟩/\I i t) m 0 ⟨_,rfl,h0⟩ fun i e ⟨t,he,h⟩=>by subst he;exact hs i t h
end
end Go.Abs
namespace Go.Proofs.YtginbapbkjhnjaaGreat
open Go.Abs Go Go.Abs.TryzF
noncomputable section
set_option maxRecDepth 10000
def FZ (F:FuncId) (T:AV->Prop):Prop:=∀ {g:FuncId} {first cap:List AV} {D:AV->Prop},(∀ x,D x->T x)->∀ (p:AV->Bool),UnderE 0 (.func (.func g) first cap)->(∀ x,D x->Abs.Returns Tryz.prog g (first++[x]++cap) (.bool (p x)))->∀ {a:AV},TSl D a->Abs.Returns Tryz.prog F [a,.func (.func g) first cap] (.int .i64 (pG p a.els 0))
def GA (F:FuncId) (T:AV->Prop):Prop:=∀ {g:FuncId} {first cap:List AV} {D:AV->Prop},(∀ x,D x->T x)->∀ (p:AV->Bool),UnderE 0 (.func (.func g) first cap)->(∀ x,D x->Abs.Returns Tryz.prog g (first++[x]++cap) (.bool (p x)))->∀ {a:AV},TSl D a->Abs.Returns Tryz.prog F [a,.func (.func g) first cap] (.bool (a.els.any p))
def CV (F:FuncId) (T:AV->Prop):Prop:=∀ {g:FuncId} {first cap:List AV} {D:AV->Prop},(∀ x,D x->T x)->∀ (p:AV->Bool),UnderE 0 (.func (.func g) first cap)->(∀ x,D x->Abs.Returns Tryz.prog g (first++[x]++cap) (.bool (p x)))->∀ {a:AV},TSl D a->Abs.Returns Tryz.prog F [a,.func (.func g) first cap] (.bool (a.els.all p))
def CW (F:FuncId) (T:AV->Prop):Prop:=∀ {g:FuncId} {first cap:List AV} {D:AV->Prop},(∀ x,D x->T x)->∀ (p:AV->Bool),UnderE 0 (.func (.func g) first cap)->(∀ x,D x->Abs.Returns Tryz.prog g (first++[x]++cap) (.bool (p x)))->∀ x,D x->Abs.Returns Tryz.prog F ([]++[x]++[.pf (.func (.func g) first cap)]) (.bool (!p x))
theorem vN {A B C D p:Prop} (x:A) (y:B) (z:C) (w:D) (h:A->B->C->D->p:=by
 rename_i g first cap D
 intro f1 f2 f3 tk hD p hu h a ha
 obtain ⟨xs,hs,hx⟩:=ha
 have hl:=hs.2
 refine aH (L:=[VW g first cap D fun x=>.bool (p x)]) (elist_cons (wU h) aG) aO (by kernel_rfl) f1 f2 f3 rfl rfl (aA (yQ hs fun x hm=>(tk x (hD x (hx x hm))).1).und (aA hu.und aF)) aQ ?_
 rw [hs.els]
 simp +contextual +decide (maxSteps:=1000000) only [↓ wP,wQ,tf,Nat.reduceAdd,wS,reduceCtorEq,hs.len]
 refine VE (fun i t=>t.val 0=a/\t.val 1=.func (.func g) first cap/\t.val 7=.int .i64 (xs.length:Nat)/\t.val 8=.int .i64 (i:Nat)/\i<=xs.length/\pG p xs 0=pG p (xs.drop i) i) (fun i=>xs.length-i) ⟨by simp +decide only [↓ aC,aE,aD],by simp +decide only [↓ aC,aE,aD],by simp +decide only [↓ aC,aE,aD],by simp +decide only [↓ aC,aE,aD];rfl,Nat.zero_le _,rfl⟩ ?_
 rintro i t ⟨t0,t1,t7,t8,hi,hq⟩
 rcases Nat.lt_or_ge i xs.length with hlt | hge
 ·obtain ⟨x,hDx,hm,hg,hd,hix,hw,hc⟩:=bO (fun x h=>tk.len (hD x h)) hx hl hlt
  rw [hd,pG]at hq
  have hpf:=fun {d:Option AV}=>tk.pf (hD x hDx) (d:=d)
  cases hp:p x with
  | true=>
    rw [hp,if_pos rfl]at hq
    simp +contextual +decide (maxSteps:=1000000) only [↓ wP,wQ,tf,Nat.reduceAdd,wS,reduceCtorEq,t0,t1,t7,t8,hs.idx,hix,hc,hpf,mO hDx,hp,hq]
  | false=>
    rw [hp,if_neg (by decide)]at hq
    simp +contextual +decide (maxSteps:=1000000) only [↓ wP,wQ,tf,Nat.reduceAdd,wS,reduceCtorEq,t0,t1,t7,t8,hs.idx,hix,hc,hpf,mO hDx,hp,hw]
    exact ⟨i+1,by show _-_<_-_;omega,_,rfl,by simp +decide only [↓ aC,aE,aD,t0],by simp +decide only [↓ aC,aE,aD,t1],by simp +decide only [↓ aC,aE,aD,t7],by simp +decide only [↓ aC,aE,aD],hlt,hq⟩
 ·obtain rfl:i=xs.length:=Nat.le_antisymm hi hge
  rw [List.drop_length,pG]at hq
  simp +contextual +decide (maxSteps:=1000000) only [↓ wP,wQ,tf,Nat.reduceAdd,wS,reduceCtorEq,t0,t1,t7,t8,bF,hq]):p:=h x y z w
theorem vO {A B C D E p:Prop} (x:A) (y:B) (z:C) (w:D) (v:E) (h:A->B->C->D->E->p:=by
 rename_i g first cap D
 intro hI f1 f2 f3 tk hD p hu h a ha
 have hx:=hI hD p hu h ha
 obtain ⟨xs,hs,hm⟩:=ha
 refine aH (elist_cons (nN hx) aG) aO (by kernel_rfl) f1 f2 f3 rfl rfl (aA (yQ hs fun x h=>(tk x (hD x (hm x h))).1).und (aA hu.und aF)) aL ?_
 simp +contextual +decide (maxSteps:=1000000) only [↓ wP,wQ,tf,Nat.reduceAdd,wS,reduceCtorEq,jZ]
 rw [yG]):p:=h x y z w v
theorem yE {A B C D p:Prop} (x:A) (y:B) (z:C) (w:D) (h:A->B->C->D->p:=by
 rename_i g first cap D
 intro f1 f2 f3 tk hD p hu h x hDx
 refine aH (elist_cons (wU h) aG) aO (by kernel_rfl) f1 f2 f3 rfl rfl (aA (tk x (hD x hDx)).1.und (aA (iG hu).und aF)) aL ?_
 have he:=fun {s:Sto}=>mO (g:=g) (first:=first) (cap:=cap) (D:=D) (p:=fun x=>.bool (p x)) (L:=[]) (s:=s) hDx
 obtain ⟨_,cs,rfl,hcl,hca⟩:=tk x (hD x hDx)
 have hz:=Nat.le_of_eq ((Nat.zero_add _).trans hcl.symm)
 simp +contextual +decide (maxSteps:=1000000) only [↓ wP,wQ,tf,Nat.reduceAdd,wS,reduceCtorEq,he,hcl,hca,cU hcl,hz]):p:=h x y z w
theorem VF {A B C p:Prop} (x:A) (y:B) (z:C) (h:A->B->C->p:=by
 rename_i g first cap D
 intro f1 f2 f3 hD p hu h x hDx
 refine aH (elist_cons (wU h) aG) aO (by kernel_rfl) f1 f2 f3 rfl rfl (aA (tu_int x (hD x hDx)).1.und (aA (iG hu).und aF)) aL ?_
 have he:=fun {s:Sto}=>mO (g:=g) (first:=first) (cap:=cap) (D:=D) (p:=fun x=>.bool (p x)) (L:=[]) (s:=s) hDx
 have hca:=(tu_int x (hD x hDx)).2
 simp +contextual +decide (maxSteps:=1000000) only [↓ wP,wQ,tf,Nat.reduceAdd,wS,reduceCtorEq,he,hca]):p:=h x y z
section
variable {F C g:FuncId} {first cap:List AV} {a:AV} {r:Bool}
theorem aHz (hua:UnderE 0 a) (hu:UnderE 0 (.func (.func g) first cap)) (hc:Abs.Returns Tryz.prog C [a,.func (.func F) [] [.pf (.func (.func g) first cap)]] (.bool r)):∀ args s,onL (.func (.func F) [] [.ptr 0 0 0]) (fun b=>b=a) (fun s=>s.get 0=some (bB 0 [.func (.func g) first cap])) args s->bP Tryz.prog C args s (.ret (.bool r) none):=fun args s hs=>by
 match args,hs with
 | [b,f],⟨h1,h2,h3⟩=>
   subst h1;subst h2
   exact qF hc mN ⟨.und _ hua.und,nM h3 rfl (by intro x hx;simp at hx;subst hx;exact hu.und),trivial⟩
theorem aIa {s:Sto} (hs:s.get 0=some (bB 0 [.func (.func g) first cap])):bI [entB C (onL (.func (.func F) [] [.ptr 0 0 0]) (fun b=>b=a) fun s=>s.get 0=some (bB 0 [.func (.func g) first cap])) fun _=>.bool r] C [a,.func (.func F) [] [.ptr 0 0 0]] s=some (.ret (.bool r) none):=gL ⟨rfl,rfl,hs⟩
end
theorem sX {A B C D E F p:Prop} (x:A) (y:B) (z:C) (w:D) (v:E) (u:F) (h:A->B->C->D->E->F->p:=by
 rename_i g first cap D
 intro hC hN f1 f2 f3 tk hD p hu h a ha
 have hc:=hC (first:=[]) (cap:=[.pf (.func (.func g) first cap)]) hD (fun x=>!p x) (gO (fun _ h=>nomatch h) (by intro x hx;simp at hx;subst hx;exact iG hu)) (hN hD p hu h) ha
 obtain ⟨xs,hs,hm⟩:=ha
 have hua:=yQ hs fun x h=>(tk x (hD x (hm x h))).1
 refine aH (L:=[entB _ _ fun _=>.bool (a.els.any fun x=>!p x)]) (elist_cons (entB_ok (aHz hua hu hc)) aG) aO (by kernel_rfl) f1 f2 f3 rfl rfl (aA hua.und (aA hu.und aF)) aL ?_
 simp +contextual +decide (maxSteps:=1000000) only [↓ wP,wQ,tf,Nat.reduceAdd,wS,reduceCtorEq,aIa,hs.cell]
 rw [<-List.not_all_eq_any_not,Bool.not_not]):p:=h x y z w v u
theorem VG:FZ 382 zU:=vN Tryz.func382 Tryz.ntmps382 Tryz.results382 @tk_val
theorem GB:GA 319 zU:=vO @VG Tryz.func319 Tryz.ntmps319 Tryz.results319 @tk_val
theorem aAg:FZ 400 IS:=vN Tryz.func400 Tryz.ntmps400 Tryz.results400 @tk_fr
theorem KM:GA 373 IS:=vO @aAg Tryz.func373 Tryz.ntmps373 Tryz.results373 @tk_fr
theorem aAh:FZ 318 vM:=vN Tryz.func318 Tryz.ntmps318 Tryz.results318 @tk_ob
theorem KN:GA 255 vM:=vO @aAh Tryz.func255 Tryz.ntmps255 Tryz.results255 @tk_ob
theorem VH:FZ 326 oP:=vN Tryz.func326 Tryz.ntmps326 Tryz.results326 @tk_out
theorem GC:GA 264 oP:=vO @VH Tryz.func264 Tryz.ntmps264 Tryz.results264 @tk_out
theorem VI:FZ 133 cD:=vN Tryz.func133 Tryz.ntmps133 Tryz.results133 @tu_int
theorem vP:GA 78 cD:=vO @VI Tryz.func78 Tryz.ntmps78 Tryz.results78 @tu_int
theorem VJ:FZ 340 rU:=vN Tryz.func340 Tryz.ntmps340 Tryz.results340 @tk_con
theorem GD:GA 279 rU:=vO @VJ Tryz.func279 Tryz.ntmps279 Tryz.results279 @tk_con
theorem PY:FZ 342 dL:=vN Tryz.func342 Tryz.ntmps342 Tryz.results342 @tk_node
theorem CX:GA 282 dL:=vO @PY Tryz.func282 Tryz.ntmps282 Tryz.results282 @tk_node
theorem VK:FZ 386 rT:=vN Tryz.func386 Tryz.ntmps386 Tryz.results386 @tk_pat
theorem GE:GA 344 rT:=vO @VK Tryz.func344 Tryz.ntmps344 Tryz.results344 @tk_pat
theorem VL:CW 280 rU:=yE Tryz.func280 Tryz.ntmps280 Tryz.results280 @tk_con
theorem aAi:CV 207 rU:=sX @GD @VL Tryz.func207 Tryz.ntmps207 Tryz.results207 @tk_con
theorem PZ:CW 283 dL:=yE Tryz.func283 Tryz.ntmps283 Tryz.results283 @tk_node
theorem VM:CV 212 dL:=sX @CX @PZ Tryz.func212 Tryz.ntmps212 Tryz.results212 @tk_node
theorem VN:CW 345 rT:=yE Tryz.func345 Tryz.ntmps345 Tryz.results345 @tk_pat
theorem NR:CV 289 rT:=sX @GE @VN Tryz.func289 Tryz.ntmps289 Tryz.results289 @tk_pat
theorem VO:CW 290 cD:=VF Tryz.func290 Tryz.ntmps290 Tryz.results290
theorem aAj:CV 214 cD:=sX @vP @VO Tryz.func214 Tryz.ntmps214 Tryz.results214 @tu_int
theorem VP:CW 320 zU:=yE Tryz.func320 Tryz.ntmps320 Tryz.results320 @tk_val
theorem aAk:CV 257 zU:=sX @GB @VP Tryz.func257 Tryz.ntmps257 Tryz.results257 @tk_val
theorem aAl:CW 383 IS:=yE Tryz.func383 Tryz.ntmps383 Tryz.results383 @tk_fr
theorem VQ:CV 321 IS:=sX @KM @aAl Tryz.func321 Tryz.ntmps321 Tryz.results321 @tk_fr
theorem aAm:CW 256 vM:=yE Tryz.func256 Tryz.ntmps256 Tryz.results256 @tk_ob
theorem aFc:CV 184 vM:=sX @KN @aAm Tryz.func184 Tryz.ntmps184 Tryz.results184 @tk_ob
theorem VS:CW 265 oP:=yE Tryz.func265 Tryz.ntmps265 Tryz.results265 @tk_out
theorem aAn:CV 187 oP:=sX @GC @VS Tryz.func187 Tryz.ntmps187 Tryz.results187 @tk_out
theorem VT:CW 216 cD:=VF Tryz.func216 Tryz.ntmps216 Tryz.results216
theorem aAo:CV 168 cD:=sX @vP @VT Tryz.func168 Tryz.ntmps168 Tryz.results168 @tu_int
end
end Go.Proofs.YtginbapbkjhnjaaGreat
