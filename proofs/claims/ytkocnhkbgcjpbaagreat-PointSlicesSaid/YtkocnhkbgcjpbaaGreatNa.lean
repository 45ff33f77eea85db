/-
  Programs, worlds and states, in plain words, as they lie in the machine.
-/
import Derived.Test.YtkocnhkbgcjpbaaGreatEy
import Derived.Test.YtkocnhkbgcjpbaaGreatEp
import Derived.Test.YtkocnhkbgcjpbaaGreatEt
import Derived.Test.YtkocnhkbgcjpbaaGreatTf
set_option linter.unusedVariables false
set_option linter.unusedSimpArgs false
namespace Go.Abs
noncomputable section
theorem wS:type_of% (And.intro @ne_eq.{1} (And.intro @if_true.{1} (And.intro @if_true.{0} (And.intro @if_false.{1} (And.intro @if_false.{0} (And.intro @aPy (And.intro @wgu (And.intro @xU (And.intro @xV (And.intro @Bool.false_and (And.intro @Bool.true_and (And.intro @Bool.and_false (And.intro @Bool.and_true (And.intro @decide_true (@decide_false))))))))))))))):=And.intro @ne_eq.{1} (And.intro @if_true.{1} (And.intro @if_true.{0} (And.intro @if_false.{1} (And.intro @if_false.{0} (And.intro @aPy (And.intro @wgu (And.intro @xU (And.intro @xV (And.intro @Bool.false_and (And.intro @Bool.true_and (And.intro @Bool.and_false (And.intro @Bool.and_true (And.intro @decide_true (@decide_false))))))))))))))
theorem wT:type_of% (And.intro @if_true.{1} (And.intro @if_true.{0} (And.intro @if_false.{1} (And.intro @if_false.{0} (And.intro @decide_true (And.intro @decide_false (And.intro @Bool.false_and (And.intro @Bool.true_and (And.intro @Bool.and_false (And.intro @Bool.and_true (And.intro @Bool.not_true (And.intro @Bool.not_false (And.intro @Bool.or_false (And.intro @Bool.false_or (And.intro @Bool.true_or (And.intro @Bool.or_true (And.intro @List.getD_cons_zero.{0} (@List.getD_cons_succ.{0})))))))))))))))))):=And.intro @if_true.{1} (And.intro @if_true.{0} (And.intro @if_false.{1} (And.intro @if_false.{0} (And.intro @decide_true (And.intro @decide_false (And.intro @Bool.false_and (And.intro @Bool.true_and (And.intro @Bool.and_false (And.intro @Bool.and_true (And.intro @Bool.not_true (And.intro @Bool.not_false (And.intro @Bool.or_false (And.intro @Bool.false_or (And.intro @Bool.true_or (And.intro @Bool.or_true (And.intro @List.getD_cons_zero.{0} (@List.getD_cons_succ.{0})))))))))))))))))
end
end Go.Abs
namespace Go.Proofs.YtkocnhkbgcjpbaaGreat
open Go.Abs Go
noncomputable section
set_option maxRecDepth 10000
abbrev dU:=TSl cS
abbrev zF:=T2 cS cS
abbrev iA:=TSl zF
abbrev UN:=T3 cS iA iA
abbrev xL:=TSl UN
abbrev nG:=T4 cS cS iA xL
abbrev nH:=T2 cS cS
abbrev UO:=T5 (TSl nG) dU (TSl nH) dU cS
def TPatN:Nat->AV->Prop
 | 0,_=>False
 | d+1,a=>T4 cS cS rW (TSl (TPatN d)) a
def vQ (a:AV):Prop:=∃ d,TPatN d a
abbrev eO:=T4 cS cS dU (TSl vQ)
abbrev zG:=T2 rW cS
abbrev rR:=TSl zG
abbrev gG:=T4 (TSl eO) dU cS rR
theorem TSl.mono {A B:AV->Prop} (h:∀ a,A a->B a) {a:AV} (ha:TSl A a):TSl B a:=by
 obtain ⟨xs,h1,h2⟩:=ha;exact ⟨xs,h1,fun x hx=>h x (h2 x hx)⟩
theorem TPatN.succ:∀ (d:Nat) (a:AV),TPatN d a->TPatN (d+1) a
 | 0,_,h=>h.elim
 | d+1,_,⟨x,y,z,u,e,h1,h2,h3,h4⟩=>⟨x,y,z,u,e,h1,h2,h3,TSl.mono (TPatN.succ d) h4⟩
theorem TPatN.le {d d':Nat} (hd:d<=d') {a:AV} (h:TPatN d a):TPatN d' a:=by
 induction hd with
 | refl=>exact h
 | step _ ih=>exact TPatN.succ _ _ ih
theorem aM:Tu dU:=iS (zI tu_int)
theorem tk_val:Tk 2 zF:=tk2 tu_int tu_int
theorem aR:Tu iA:=iS (kB tk_val)
theorem tk_fr:Tk 3 UN:=tk3 tu_int aR aR
theorem fV:Tu xL:=iS (kB tk_fr)
theorem tk_ob:Tk 4 nG:=tk4 tu_int tu_int aR fV
theorem iG:Tu (TSl nG):=iS (kB tk_ob)
theorem tk_out:Tk 2 nH:=tk2 tu_int tu_int
theorem cJ:Tu (TSl nH):=iS (kB tk_out)
theorem rS:Tk 5 UO:=tk5 iG aM cJ aM tu_int
theorem cN:∀ d,Tk 4 (TPatN d)
 | 0=>fun _ h=>h.elim
 | d+1=>tk4 tu_int tu_int tu_str (iS (kB (cN d)))
theorem tk_pat:Tk 4 vQ:=fun a ⟨d,h⟩=>cN d a h
theorem fW:Tu (TSl vQ):=iS (kB tk_pat)
theorem tk_node:Tk 4 eO:=tk4 tu_int tu_int aM fW
theorem dN:Tu (TSl eO):=iS (kB tk_node)
theorem tk_con:Tk 2 zG:=tk2 tu_str tu_int
theorem dR:Tu rR:=iS (kB tk_con)
theorem dK:Tk 4 gG:=tk4 dN aM tu_int dR
def inR (n l h:Int):Bool:=decide (l<=n)&&decide (n<=h)
def pO (n:Int):Bool:=inR n (-1000000000) 1000000000
def oU (nf no:Int) (v:AV):Bool:=
 if (v.fld 0).num=1 then pO (v.fld 1).num else if (v.fld 0).num=2 then inR (v.fld 1).num 0 1 else if (v.fld 0).num=3 then decide ((v.fld 1).num=0)
 else if (v.fld 0).num=4 then inR (v.fld 1).num 0 (nf-1) else if (v.fld 0).num=5 then inR (v.fld 1).num 0 (no-1) else false
def fM (nf no:Int) (most:Int) (l:List AV):Bool:=decide ((l.length:Int)<=most)&&l.all (oU nf no)
def eP (n:AV):Int:=
 if (n.fld 0).num∈[6,9,10,11,12,13,18,22] then 2 else if (n.fld 0).num=14 then (n.fld 2).els.length
 else if (n.fld 0).num∈[7,8,16,17,15,19,20,23,24,26] then 1 else 0
def eJ (ns:List AV) (n:Int):AV:=ns.getD n.toNat .top
def MI (ns:List AV) (nf no:Int) (f:AV):Bool:=
 inR (f.fld 0).num 0 ((ns.length:Int)-1)&&fM nf no 30 (f.fld 1).els&&fM nf no (eP (eJ ns (f.fld 0).num)) (f.fld 2).els
def nY (ns:List AV) (nf no:Int) (l:List AV):Bool:=decide (l.length<=40)&&l.all (MI ns nf no)
def gL (ns:List AV) (f:AV):Bool:=decide (((f.fld 2).els.length:Int)<eP (eJ ns (f.fld 0).num))
def iH (os:List AV) (k:Int):Bool:=inR k 0 ((os.length:Int)-1)&&decide (((os.getD k.toNat .top).fld 0).num=6)
def dM (os:List AV):Nat:=(os.filter fun o=>decide ((o.fld 0).num=6)).length
def zH (o:AV):Bool:=inR (o.fld 0).num 0 3&&pO (o.fld 1).num
end
end Go.Proofs.YtkocnhkbgcjpbaaGreat
/-
 Whether something is so of all elements of a list: the functions that take it as a function.
-/
namespace Go.Proofs.YtkocnhkbgcjpbaaGreat
open Go.Abs Go Go.Abs.TryzF
noncomputable section
set_option maxRecDepth 10000
theorem aCz {g:FuncId} {first cap:List AV} {D:AV->Prop} (hD:∀ x,D x->zF x) (p:AV->Bool) (hu:UnderE 0 (.func (.func g) first cap)) (h:∀ x,D x->Abs.Returns Tryz.prog g (first++[x]++cap) (.bool (p x))) {a:AV} (ha:TSl D a):
 Abs.Returns Tryz.prog 298 [a,.func (.func g) first cap] (.int .i64 (cT p a.els 0)):=by
 obtain ⟨xs,hs,hx⟩:=ha;have hl:=hs.2;refine aF (L:=[nI g first cap D fun x=>.bool (p x)]) (elist_cons (dS h) aE) aH (by kernel_rfl) Tryz.func298 Tryz.ntmps298 Tryz.results298 rfl rfl (aA (bX hs fun x hm=>(tk_val x (hD x (hx x hm))).1).und (aA hu.und aD)) aQ ?_;rw [hs.els];simp +contextual +decide (maxSteps:=1000000) only [↓ wP,wQ,tf,wS,hs.len];refine aP (fun i e=>∃ t,e=⟨19,none,298,t,[],⟨0,0,.leaf⟩,.no⟩/\t.val 0=a/\t.val 1=.func (.func g) first cap/\t.val 7=.int .i64 (xs.length:Nat)/\t.val 8=.int .i64 (i:Nat)/\i<=xs.length/\cT p xs 0=cT p (xs.drop i) i) (fun i=>xs.length-i) 0 ⟨_,rfl,by simp +decide only [↓ aB,cC,bE],by simp +decide only [↓ aB,cC,bE],by simp +decide only [↓ aB],by simp +decide only [↓ aB];rfl,Nat.zero_le _,rfl⟩ ?_;rintro i _ ⟨t,rfl,t0,t1,t7,t8,hi,hq⟩
 rcases Nat.lt_or_ge i xs.length with hlt | hge
 ·obtain ⟨x,hDx,hm,hg,hd,hix,hw,hc⟩:=aZ (k:=2) (fun x h=>tk_val.len (hD x h)) hx hl hlt
  rw [hd,cT]at hq
  have hpf:=fun {d:Option AV}=>tk_val.pf (hD x hDx) (d:=d)
  cases hp:p x with
  | true=>
    rw [hp,if_pos rfl]at hq;simp +contextual +decide (maxSteps:=1000000) only [↓ wP,wQ,tf,wS,t0,t1,t7,t8,hs.idx,hix,hc,hpf,bK hDx,hp,hq]
  | false=>
    rw [hp,if_neg (by decide)]at hq;simp +contextual +decide (maxSteps:=1000000) only [↓ wP,wQ,tf,wS,t0,t1,t7,t8,hs.idx,hix,hc,hpf,bK hDx,hp,hw];exact ⟨i+1,by show _-_<_-_;omega,_,rfl,by simp +decide only [↓ aB,t0],by simp +decide only [↓ aB,t1],by simp +decide only [↓ aB,t7],by simp +decide only [↓ aB],hlt,hq⟩
 ·obtain rfl:i=xs.length:=Nat.le_antisymm hi hge
  rw [List.drop_length,cT]at hq;simp +contextual +decide (maxSteps:=1000000) only [↓ wP,wQ,wS,t7,t8,bB,hq]
theorem MJ {g:FuncId} {first cap:List AV} {D:AV->Prop} (hD:∀ x,D x->zF x) (p:AV->Bool) (hu:UnderE 0 (.func (.func g) first cap)) (h:∀ x,D x->Abs.Returns Tryz.prog g (first++[x]++cap) (.bool (p x))) {a:AV} (ha:TSl D a):
 Abs.Returns Tryz.prog 242 [a,.func (.func g) first cap] (.bool (a.els.any p)):=by
 have hx:=aCz hD p hu h ha;obtain ⟨xs,hs,hm⟩:=ha;refine aF (L:=[qP 298 [a,.func (.func g) first cap] (.int .i64 (cT p a.els 0))]) (elist_cons (gH hx) aE) aH (by kernel_rfl) Tryz.func242 Tryz.ntmps242 Tryz.results242 rfl rfl (aA (bX hs fun x h=>(tk_val x (hD x (hm x h))).1).und (aA hu.und aD)) aG ?_;simp +contextual +decide (maxSteps:=1000000) only [↓ wP,wQ,wS,eE];rw [iT]
theorem aIg {g:FuncId} {first cap:List AV} {D:AV->Prop} (hD:∀ x,D x->UN x) (p:AV->Bool) (hu:UnderE 0 (.func (.func g) first cap)) (h:∀ x,D x->Abs.Returns Tryz.prog g (first++[x]++cap) (.bool (p x))) {a:AV} (ha:TSl D a):
 Abs.Returns Tryz.prog 318 [a,.func (.func g) first cap] (.int .i64 (cT p a.els 0)):=by
 obtain ⟨xs,hs,hx⟩:=ha;have hl:=hs.2;refine aF (L:=[nI g first cap D fun x=>.bool (p x)]) (elist_cons (dS h) aE) aH (by kernel_rfl) Tryz.func318 Tryz.ntmps318 Tryz.results318 rfl rfl (aA (bX hs fun x hm=>(tk_fr x (hD x (hx x hm))).1).und (aA hu.und aD)) aQ ?_;rw [hs.els];simp +contextual +decide (maxSteps:=1000000) only [↓ wP,wQ,tf,wS,hs.len];refine aP (fun i e=>∃ t,e=⟨19,none,318,t,[],⟨0,0,.leaf⟩,.no⟩/\t.val 0=a/\t.val 1=.func (.func g) first cap/\t.val 7=.int .i64 (xs.length:Nat)/\t.val 8=.int .i64 (i:Nat)/\i<=xs.length/\cT p xs 0=cT p (xs.drop i) i) (fun i=>xs.length-i) 0 ⟨_,rfl,by simp +decide only [↓ aB,cC,bE],by simp +decide only [↓ aB,cC,bE],by simp +decide only [↓ aB],by simp +decide only [↓ aB];rfl,Nat.zero_le _,rfl⟩ ?_;rintro i _ ⟨t,rfl,t0,t1,t7,t8,hi,hq⟩
 rcases Nat.lt_or_ge i xs.length with hlt | hge
 ·obtain ⟨x,hDx,hm,hg,hd,hix,hw,hc⟩:=aZ (k:=3) (fun x h=>tk_fr.len (hD x h)) hx hl hlt
  rw [hd,cT]at hq
  have hpf:=fun {d:Option AV}=>tk_fr.pf (hD x hDx) (d:=d)
  cases hp:p x with
  | true=>
    rw [hp,if_pos rfl]at hq;simp +contextual +decide (maxSteps:=1000000) only [↓ wP,wQ,tf,wS,t0,t1,t7,t8,hs.idx,hix,hc,hpf,bK hDx,hp,hq]
  | false=>
    rw [hp,if_neg (by decide)]at hq;simp +contextual +decide (maxSteps:=1000000) only [↓ wP,wQ,tf,wS,t0,t1,t7,t8,hs.idx,hix,hc,hpf,bK hDx,hp,hw];exact ⟨i+1,by show _-_<_-_;omega,_,rfl,by simp +decide only [↓ aB,t0],by simp +decide only [↓ aB,t1],by simp +decide only [↓ aB,t7],by simp +decide only [↓ aB],hlt,hq⟩
 ·obtain rfl:i=xs.length:=Nat.le_antisymm hi hge
  rw [List.drop_length,cT]at hq;simp +contextual +decide (maxSteps:=1000000) only [↓ wP,wQ,wS,t7,t8,bB,hq]
theorem RB {g:FuncId} {first cap:List AV} {D:AV->Prop} (hD:∀ x,D x->UN x) (p:AV->Bool) (hu:UnderE 0 (.func (.func g) first cap)) (h:∀ x,D x->Abs.Returns Tryz.prog g (first++[x]++cap) (.bool (p x))) {a:AV} (ha:TSl D a):
 Abs.Returns Tryz.prog 299 [a,.func (.func g) first cap] (.bool (a.els.any p)):=by
 have hx:=aIg hD p hu h ha;obtain ⟨xs,hs,hm⟩:=ha;refine aF (L:=[qP 318 [a,.func (.func g) first cap] (.int .i64 (cT p a.els 0))]) (elist_cons (gH hx) aE) aH (by kernel_rfl) Tryz.func299 Tryz.ntmps299 Tryz.results299 rfl rfl (aA (bX hs fun x h=>(tk_fr x (hD x (hm x h))).1).und (aA hu.und aD)) aG ?_;simp +contextual +decide (maxSteps:=1000000) only [↓ wP,wQ,wS,eE];rw [iT]
theorem aIh {g:FuncId} {first cap:List AV} {D:AV->Prop} (hD:∀ x,D x->nG x) (p:AV->Bool) (hu:UnderE 0 (.func (.func g) first cap)) (h:∀ x,D x->Abs.Returns Tryz.prog g (first++[x]++cap) (.bool (p x))) {a:AV} (ha:TSl D a):
 Abs.Returns Tryz.prog 241 [a,.func (.func g) first cap] (.int .i64 (cT p a.els 0)):=by
 obtain ⟨xs,hs,hx⟩:=ha;have hl:=hs.2;refine aF (L:=[nI g first cap D fun x=>.bool (p x)]) (elist_cons (dS h) aE) aH (by kernel_rfl) Tryz.func241 Tryz.ntmps241 Tryz.results241 rfl rfl (aA (bX hs fun x hm=>(tk_ob x (hD x (hx x hm))).1).und (aA hu.und aD)) aQ ?_;rw [hs.els];simp +contextual +decide (maxSteps:=1000000) only [↓ wP,wQ,tf,wS,hs.len];refine aP (fun i e=>∃ t,e=⟨19,none,241,t,[],⟨0,0,.leaf⟩,.no⟩/\t.val 0=a/\t.val 1=.func (.func g) first cap/\t.val 7=.int .i64 (xs.length:Nat)/\t.val 8=.int .i64 (i:Nat)/\i<=xs.length/\cT p xs 0=cT p (xs.drop i) i) (fun i=>xs.length-i) 0 ⟨_,rfl,by simp +decide only [↓ aB,cC,bE],by simp +decide only [↓ aB,cC,bE],by simp +decide only [↓ aB],by simp +decide only [↓ aB];rfl,Nat.zero_le _,rfl⟩ ?_;rintro i _ ⟨t,rfl,t0,t1,t7,t8,hi,hq⟩
 rcases Nat.lt_or_ge i xs.length with hlt | hge
 ·obtain ⟨x,hDx,hm,hg,hd,hix,hw,hc⟩:=aZ (k:=4) (fun x h=>tk_ob.len (hD x h)) hx hl hlt
  rw [hd,cT]at hq
  have hpf:=fun {d:Option AV}=>tk_ob.pf (hD x hDx) (d:=d)
  cases hp:p x with
  | true=>
    rw [hp,if_pos rfl]at hq;simp +contextual +decide (maxSteps:=1000000) only [↓ wP,wQ,tf,wS,t0,t1,t7,t8,hs.idx,hix,hc,hpf,bK hDx,hp,hq]
  | false=>
    rw [hp,if_neg (by decide)]at hq;simp +contextual +decide (maxSteps:=1000000) only [↓ wP,wQ,tf,wS,t0,t1,t7,t8,hs.idx,hix,hc,hpf,bK hDx,hp,hw];exact ⟨i+1,by show _-_<_-_;omega,_,rfl,by simp +decide only [↓ aB,t0],by simp +decide only [↓ aB,t1],by simp +decide only [↓ aB,t7],by simp +decide only [↓ aB],hlt,hq⟩
 ·obtain rfl:i=xs.length:=Nat.le_antisymm hi hge
  rw [List.drop_length,cT]at hq;simp +contextual +decide (maxSteps:=1000000) only [↓ wP,wQ,wS,t7,t8,bB,hq]
theorem RC {g:FuncId} {first cap:List AV} {D:AV->Prop} (hD:∀ x,D x->nG x) (p:AV->Bool) (hu:UnderE 0 (.func (.func g) first cap)) (h:∀ x,D x->Abs.Returns Tryz.prog g (first++[x]++cap) (.bool (p x))) {a:AV} (ha:TSl D a):
 Abs.Returns Tryz.prog 186 [a,.func (.func g) first cap] (.bool (a.els.any p)):=by
 have hx:=aIh hD p hu h ha;obtain ⟨xs,hs,hm⟩:=ha;refine aF (L:=[qP 241 [a,.func (.func g) first cap] (.int .i64 (cT p a.els 0))]) (elist_cons (gH hx) aE) aH (by kernel_rfl) Tryz.func186 Tryz.ntmps186 Tryz.results186 rfl rfl (aA (bX hs fun x h=>(tk_ob x (hD x (hm x h))).1).und (aA hu.und aD)) aG ?_;simp +contextual +decide (maxSteps:=1000000) only [↓ wP,wQ,wS,eE];rw [iT]
theorem aDa {g:FuncId} {first cap:List AV} {D:AV->Prop} (hD:∀ x,D x->nH x) (p:AV->Bool) (hu:UnderE 0 (.func (.func g) first cap)) (h:∀ x,D x->Abs.Returns Tryz.prog g (first++[x]++cap) (.bool (p x))) {a:AV} (ha:TSl D a):
 Abs.Returns Tryz.prog 250 [a,.func (.func g) first cap] (.int .i64 (cT p a.els 0)):=by
 obtain ⟨xs,hs,hx⟩:=ha;have hl:=hs.2;refine aF (L:=[nI g first cap D fun x=>.bool (p x)]) (elist_cons (dS h) aE) aH (by kernel_rfl) Tryz.func250 Tryz.ntmps250 Tryz.results250 rfl rfl (aA (bX hs fun x hm=>(tk_out x (hD x (hx x hm))).1).und (aA hu.und aD)) aQ ?_;rw [hs.els];simp +contextual +decide (maxSteps:=1000000) only [↓ wP,wQ,tf,wS,hs.len];refine aP (fun i e=>∃ t,e=⟨19,none,250,t,[],⟨0,0,.leaf⟩,.no⟩/\t.val 0=a/\t.val 1=.func (.func g) first cap/\t.val 7=.int .i64 (xs.length:Nat)/\t.val 8=.int .i64 (i:Nat)/\i<=xs.length/\cT p xs 0=cT p (xs.drop i) i) (fun i=>xs.length-i) 0 ⟨_,rfl,by simp +decide only [↓ aB,cC,bE],by simp +decide only [↓ aB,cC,bE],by simp +decide only [↓ aB],by simp +decide only [↓ aB];rfl,Nat.zero_le _,rfl⟩ ?_;rintro i _ ⟨t,rfl,t0,t1,t7,t8,hi,hq⟩
 rcases Nat.lt_or_ge i xs.length with hlt | hge
 ·obtain ⟨x,hDx,hm,hg,hd,hix,hw,hc⟩:=aZ (k:=2) (fun x h=>tk_out.len (hD x h)) hx hl hlt
  rw [hd,cT]at hq
  have hpf:=fun {d:Option AV}=>tk_out.pf (hD x hDx) (d:=d)
  cases hp:p x with
  | true=>
    rw [hp,if_pos rfl]at hq;simp +contextual +decide (maxSteps:=1000000) only [↓ wP,wQ,tf,wS,t0,t1,t7,t8,hs.idx,hix,hc,hpf,bK hDx,hp,hq]
  | false=>
    rw [hp,if_neg (by decide)]at hq;simp +contextual +decide (maxSteps:=1000000) only [↓ wP,wQ,tf,wS,t0,t1,t7,t8,hs.idx,hix,hc,hpf,bK hDx,hp,hw];exact ⟨i+1,by show _-_<_-_;omega,_,rfl,by simp +decide only [↓ aB,t0],by simp +decide only [↓ aB,t1],by simp +decide only [↓ aB,t7],by simp +decide only [↓ aB],hlt,hq⟩
 ·obtain rfl:i=xs.length:=Nat.le_antisymm hi hge
  rw [List.drop_length,cT]at hq;simp +contextual +decide (maxSteps:=1000000) only [↓ wP,wQ,wS,t7,t8,bB,hq]
theorem MK {g:FuncId} {first cap:List AV} {D:AV->Prop} (hD:∀ x,D x->nH x) (p:AV->Bool) (hu:UnderE 0 (.func (.func g) first cap)) (h:∀ x,D x->Abs.Returns Tryz.prog g (first++[x]++cap) (.bool (p x))) {a:AV} (ha:TSl D a):
 Abs.Returns Tryz.prog 196 [a,.func (.func g) first cap] (.bool (a.els.any p)):=by
 have hx:=aDa hD p hu h ha;obtain ⟨xs,hs,hm⟩:=ha;refine aF (L:=[qP 250 [a,.func (.func g) first cap] (.int .i64 (cT p a.els 0))]) (elist_cons (gH hx) aE) aH (by kernel_rfl) Tryz.func196 Tryz.ntmps196 Tryz.results196 rfl rfl (aA (bX hs fun x h=>(tk_out x (hD x (hm x h))).1).und (aA hu.und aD)) aG ?_;simp +contextual +decide (maxSteps:=1000000) only [↓ wP,wQ,wS,eE];rw [iT]
theorem aDb {g:FuncId} {first cap:List AV} {D:AV->Prop} (hD:∀ x,D x->cS x) (p:AV->Bool) (hu:UnderE 0 (.func (.func g) first cap)) (h:∀ x,D x->Abs.Returns Tryz.prog g (first++[x]++cap) (.bool (p x))) {a:AV} (ha:TSl D a):
 Abs.Returns Tryz.prog 297 [a,.func (.func g) first cap] (.int .i64 (cT p a.els 0)):=by
 obtain ⟨xs,hs,hx⟩:=ha;have hl:=hs.2;refine aF (L:=[nI g first cap D fun x=>.bool (p x)]) (elist_cons (dS h) aE) aH (by kernel_rfl) Tryz.func297 Tryz.ntmps297 Tryz.results297 rfl rfl (aA (bX hs fun x hm=>(tu_int x (hD x (hx x hm))).1).und (aA hu.und aD)) aQ ?_;rw [hs.els];simp +contextual +decide (maxSteps:=1000000) only [↓ wP,wQ,tf,wS,hs.len];refine aP (fun i e=>∃ t,e=⟨19,none,297,t,[],⟨0,0,.leaf⟩,.no⟩/\t.val 0=a/\t.val 1=.func (.func g) first cap/\t.val 7=.int .i64 (xs.length:Nat)/\t.val 8=.int .i64 (i:Nat)/\i<=xs.length/\cT p xs 0=cT p (xs.drop i) i) (fun i=>xs.length-i) 0 ⟨_,rfl,by simp +decide only [↓ aB,cC,bE],by simp +decide only [↓ aB,cC,bE],by simp +decide only [↓ aB],by simp +decide only [↓ aB];rfl,Nat.zero_le _,rfl⟩ ?_;rintro i _ ⟨t,rfl,t0,t1,t7,t8,hi,hq⟩
 rcases Nat.lt_or_ge i xs.length with hlt | hge
 ·obtain ⟨x,hDx,hm,hg,hd,hix,hw,hc⟩:=aZ (k:=1) (fun x h=>tu_int.len (hD x h)) hx hl hlt
  rw [hd,cT]at hq
  have hpf:=fun {d:Option AV}=>tu_int.pf (hD x hDx) (d:=d)
  cases hp:p x with
  | true=>
    rw [hp,if_pos rfl]at hq;simp +contextual +decide (maxSteps:=1000000) only [↓ wP,wQ,tf,wS,t0,t1,t7,t8,hs.idx,hix,hc,hpf,bK hDx,hp,hq]
  | false=>
    rw [hp,if_neg (by decide)]at hq;simp +contextual +decide (maxSteps:=1000000) only [↓ wP,wQ,tf,wS,t0,t1,t7,t8,hs.idx,hix,hc,hpf,bK hDx,hp,hw];exact ⟨i+1,by show _-_<_-_;omega,_,rfl,by simp +decide only [↓ aB,t0],by simp +decide only [↓ aB,t1],by simp +decide only [↓ aB,t7],by simp +decide only [↓ aB],hlt,hq⟩
 ·obtain rfl:i=xs.length:=Nat.le_antisymm hi hge
  rw [List.drop_length,cT]at hq;simp +contextual +decide (maxSteps:=1000000) only [↓ wP,wQ,wS,t7,t8,bB,hq]
theorem AC {g:FuncId} {first cap:List AV} {D:AV->Prop} (hD:∀ x,D x->cS x) (p:AV->Bool) (hu:UnderE 0 (.func (.func g) first cap)) (h:∀ x,D x->Abs.Returns Tryz.prog g (first++[x]++cap) (.bool (p x))) {a:AV} (ha:TSl D a):
 Abs.Returns Tryz.prog 239 [a,.func (.func g) first cap] (.bool (a.els.any p)):=by
 have hx:=aDb hD p hu h ha;obtain ⟨xs,hs,hm⟩:=ha;refine aF (L:=[qP 297 [a,.func (.func g) first cap] (.int .i64 (cT p a.els 0))]) (elist_cons (gH hx) aE) aH (by kernel_rfl) Tryz.func239 Tryz.ntmps239 Tryz.results239 rfl rfl (aA (bX hs fun x h=>(tu_int x (hD x (hm x h))).1).und (aA hu.und aD)) aG ?_;simp +contextual +decide (maxSteps:=1000000) only [↓ wP,wQ,wS,eE];rw [iT]
theorem aDc {g:FuncId} {first cap:List AV} {D:AV->Prop} (hD:∀ x,D x->zG x) (p:AV->Bool) (hu:UnderE 0 (.func (.func g) first cap)) (h:∀ x,D x->Abs.Returns Tryz.prog g (first++[x]++cap) (.bool (p x))) {a:AV} (ha:TSl D a):
 Abs.Returns Tryz.prog 291 [a,.func (.func g) first cap] (.int .i64 (cT p a.els 0)):=by
 obtain ⟨xs,hs,hx⟩:=ha;have hl:=hs.2;refine aF (L:=[nI g first cap D fun x=>.bool (p x)]) (elist_cons (dS h) aE) aH (by kernel_rfl) Tryz.func291 Tryz.ntmps291 Tryz.results291 rfl rfl (aA (bX hs fun x hm=>(tk_con x (hD x (hx x hm))).1).und (aA hu.und aD)) aQ ?_;rw [hs.els];simp +contextual +decide (maxSteps:=1000000) only [↓ wP,wQ,tf,wS,hs.len];refine aP (fun i e=>∃ t,e=⟨19,none,291,t,[],⟨0,0,.leaf⟩,.no⟩/\t.val 0=a/\t.val 1=.func (.func g) first cap/\t.val 7=.int .i64 (xs.length:Nat)/\t.val 8=.int .i64 (i:Nat)/\i<=xs.length/\cT p xs 0=cT p (xs.drop i) i) (fun i=>xs.length-i) 0 ⟨_,rfl,by simp +decide only [↓ aB,cC,bE],by simp +decide only [↓ aB,cC,bE],by simp +decide only [↓ aB],by simp +decide only [↓ aB];rfl,Nat.zero_le _,rfl⟩ ?_;rintro i _ ⟨t,rfl,t0,t1,t7,t8,hi,hq⟩
 rcases Nat.lt_or_ge i xs.length with hlt | hge
 ·obtain ⟨x,hDx,hm,hg,hd,hix,hw,hc⟩:=aZ (k:=2) (fun x h=>tk_con.len (hD x h)) hx hl hlt
  rw [hd,cT]at hq
  have hpf:=fun {d:Option AV}=>tk_con.pf (hD x hDx) (d:=d)
  cases hp:p x with
  | true=>
    rw [hp,if_pos rfl]at hq;simp +contextual +decide (maxSteps:=1000000) only [↓ wP,wQ,tf,wS,t0,t1,t7,t8,hs.idx,hix,hc,hpf,bK hDx,hp,hq]
  | false=>
    rw [hp,if_neg (by decide)]at hq;simp +contextual +decide (maxSteps:=1000000) only [↓ wP,wQ,tf,wS,t0,t1,t7,t8,hs.idx,hix,hc,hpf,bK hDx,hp,hw];exact ⟨i+1,by show _-_<_-_;omega,_,rfl,by simp +decide only [↓ aB,t0],by simp +decide only [↓ aB,t1],by simp +decide only [↓ aB,t7],by simp +decide only [↓ aB],hlt,hq⟩
 ·obtain rfl:i=xs.length:=Nat.le_antisymm hi hge
  rw [List.drop_length,cT]at hq;simp +contextual +decide (maxSteps:=1000000) only [↓ wP,wQ,wS,t7,t8,bB,hq]
theorem ML {g:FuncId} {first cap:List AV} {D:AV->Prop} (hD:∀ x,D x->zG x) (p:AV->Bool) (hu:UnderE 0 (.func (.func g) first cap)) (h:∀ x,D x->Abs.Returns Tryz.prog g (first++[x]++cap) (.bool (p x))) {a:AV} (ha:TSl D a):
 Abs.Returns Tryz.prog 228 [a,.func (.func g) first cap] (.bool (a.els.any p)):=by
 have hx:=aDc hD p hu h ha;obtain ⟨xs,hs,hm⟩:=ha;refine aF (L:=[qP 291 [a,.func (.func g) first cap] (.int .i64 (cT p a.els 0))]) (elist_cons (gH hx) aE) aH (by kernel_rfl) Tryz.func228 Tryz.ntmps228 Tryz.results228 rfl rfl (aA (bX hs fun x h=>(tk_con x (hD x (hm x h))).1).und (aA hu.und aD)) aG ?_;simp +contextual +decide (maxSteps:=1000000) only [↓ wP,wQ,wS,eE];rw [iT]
theorem XI {g:FuncId} {first cap:List AV} {D:AV->Prop} (hD:∀ x,D x->eO x) (p:AV->Bool) (hu:UnderE 0 (.func (.func g) first cap)) (h:∀ x,D x->Abs.Returns Tryz.prog g (first++[x]++cap) (.bool (p x))) {a:AV} (ha:TSl D a):
 Abs.Returns Tryz.prog 293 [a,.func (.func g) first cap] (.int .i64 (cT p a.els 0)):=by
 obtain ⟨xs,hs,hx⟩:=ha;have hl:=hs.2;refine aF (L:=[nI g first cap D fun x=>.bool (p x)]) (elist_cons (dS h) aE) aH (by kernel_rfl) Tryz.func293 Tryz.ntmps293 Tryz.results293 rfl rfl (aA (bX hs fun x hm=>(tk_node x (hD x (hx x hm))).1).und (aA hu.und aD)) aQ ?_;rw [hs.els];simp +contextual +decide (maxSteps:=1000000) only [↓ wP,wQ,tf,wS,hs.len];refine aP (fun i e=>∃ t,e=⟨19,none,293,t,[],⟨0,0,.leaf⟩,.no⟩/\t.val 0=a/\t.val 1=.func (.func g) first cap/\t.val 7=.int .i64 (xs.length:Nat)/\t.val 8=.int .i64 (i:Nat)/\i<=xs.length/\cT p xs 0=cT p (xs.drop i) i) (fun i=>xs.length-i) 0 ⟨_,rfl,by simp +decide only [↓ aB,cC,bE],by simp +decide only [↓ aB,cC,bE],by simp +decide only [↓ aB],by simp +decide only [↓ aB];rfl,Nat.zero_le _,rfl⟩ ?_;rintro i _ ⟨t,rfl,t0,t1,t7,t8,hi,hq⟩
 rcases Nat.lt_or_ge i xs.length with hlt | hge
 ·obtain ⟨x,hDx,hm,hg,hd,hix,hw,hc⟩:=aZ (k:=4) (fun x h=>tk_node.len (hD x h)) hx hl hlt
  rw [hd,cT]at hq
  have hpf:=fun {d:Option AV}=>tk_node.pf (hD x hDx) (d:=d)
  cases hp:p x with
  | true=>
    rw [hp,if_pos rfl]at hq;simp +contextual +decide (maxSteps:=1000000) only [↓ wP,wQ,tf,wS,t0,t1,t7,t8,hs.idx,hix,hc,hpf,bK hDx,hp,hq]
  | false=>
    rw [hp,if_neg (by decide)]at hq;simp +contextual +decide (maxSteps:=1000000) only [↓ wP,wQ,tf,wS,t0,t1,t7,t8,hs.idx,hix,hc,hpf,bK hDx,hp,hw];exact ⟨i+1,by show _-_<_-_;omega,_,rfl,by simp +decide only [↓ aB,t0],by simp +decide only [↓ aB,t1],by simp +decide only [↓ aB,t7],by simp +decide only [↓ aB],hlt,hq⟩
 ·obtain rfl:i=xs.length:=Nat.le_antisymm hi hge
  rw [List.drop_length,cT]at hq;simp +contextual +decide (maxSteps:=1000000) only [↓ wP,wQ,wS,t7,t8,bB,hq]
theorem IQ {g:FuncId} {first cap:List AV} {D:AV->Prop} (hD:∀ x,D x->eO x) (p:AV->Bool) (hu:UnderE 0 (.func (.func g) first cap)) (h:∀ x,D x->Abs.Returns Tryz.prog g (first++[x]++cap) (.bool (p x))) {a:AV} (ha:TSl D a):
 Abs.Returns Tryz.prog 231 [a,.func (.func g) first cap] (.bool (a.els.any p)):=by
 have hx:=XI hD p hu h ha;obtain ⟨xs,hs,hm⟩:=ha;refine aF (L:=[qP 293 [a,.func (.func g) first cap] (.int .i64 (cT p a.els 0))]) (elist_cons (gH hx) aE) aH (by kernel_rfl) Tryz.func231 Tryz.ntmps231 Tryz.results231 rfl rfl (aA (bX hs fun x h=>(tk_node x (hD x (hm x h))).1).und (aA hu.und aD)) aG ?_;simp +contextual +decide (maxSteps:=1000000) only [↓ wP,wQ,wS,eE];rw [iT]
theorem aDd {g:FuncId} {first cap:List AV} {D:AV->Prop} (hD:∀ x,D x->vQ x) (p:AV->Bool) (hu:UnderE 0 (.func (.func g) first cap)) (h:∀ x,D x->Abs.Returns Tryz.prog g (first++[x]++cap) (.bool (p x))) {a:AV} (ha:TSl D a):
 Abs.Returns Tryz.prog 317 [a,.func (.func g) first cap] (.int .i64 (cT p a.els 0)):=by
 obtain ⟨xs,hs,hx⟩:=ha;have hl:=hs.2;refine aF (L:=[nI g first cap D fun x=>.bool (p x)]) (elist_cons (dS h) aE) aH (by kernel_rfl) Tryz.func317 Tryz.ntmps317 Tryz.results317 rfl rfl (aA (bX hs fun x hm=>(tk_pat x (hD x (hx x hm))).1).und (aA hu.und aD)) aQ ?_;rw [hs.els];simp +contextual +decide (maxSteps:=1000000) only [↓ wP,wQ,tf,wS,hs.len];refine aP (fun i e=>∃ t,e=⟨19,none,317,t,[],⟨0,0,.leaf⟩,.no⟩/\t.val 0=a/\t.val 1=.func (.func g) first cap/\t.val 7=.int .i64 (xs.length:Nat)/\t.val 8=.int .i64 (i:Nat)/\i<=xs.length/\cT p xs 0=cT p (xs.drop i) i) (fun i=>xs.length-i) 0 ⟨_,rfl,by simp +decide only [↓ aB,cC,bE],by simp +decide only [↓ aB,cC,bE],by simp +decide only [↓ aB],by simp +decide only [↓ aB];rfl,Nat.zero_le _,rfl⟩ ?_;rintro i _ ⟨t,rfl,t0,t1,t7,t8,hi,hq⟩
 rcases Nat.lt_or_ge i xs.length with hlt | hge
 ·obtain ⟨x,hDx,hm,hg,hd,hix,hw,hc⟩:=aZ (k:=4) (fun x h=>tk_pat.len (hD x h)) hx hl hlt
  rw [hd,cT]at hq
  have hpf:=fun {d:Option AV}=>tk_pat.pf (hD x hDx) (d:=d)
  cases hp:p x with
  | true=>
    rw [hp,if_pos rfl]at hq;simp +contextual +decide (maxSteps:=1000000) only [↓ wP,wQ,tf,wS,t0,t1,t7,t8,hs.idx,hix,hc,hpf,bK hDx,hp,hq]
  | false=>
    rw [hp,if_neg (by decide)]at hq;simp +contextual +decide (maxSteps:=1000000) only [↓ wP,wQ,tf,wS,t0,t1,t7,t8,hs.idx,hix,hc,hpf,bK hDx,hp,hw];exact ⟨i+1,by show _-_<_-_;omega,_,rfl,by simp +decide only [↓ aB,t0],by simp +decide only [↓ aB,t1],by simp +decide only [↓ aB,t7],by simp +decide only [↓ aB],hlt,hq⟩
 ·obtain rfl:i=xs.length:=Nat.le_antisymm hi hge
  rw [List.drop_length,cT]at hq;simp +contextual +decide (maxSteps:=1000000) only [↓ wP,wQ,wS,t7,t8,bB,hq]
theorem MN {g:FuncId} {first cap:List AV} {D:AV->Prop} (hD:∀ x,D x->vQ x) (p:AV->Bool) (hu:UnderE 0 (.func (.func g) first cap)) (h:∀ x,D x->Abs.Returns Tryz.prog g (first++[x]++cap) (.bool (p x))) {a:AV} (ha:TSl D a):
 Abs.Returns Tryz.prog 295 [a,.func (.func g) first cap] (.bool (a.els.any p)):=by
 have hx:=aDd hD p hu h ha;obtain ⟨xs,hs,hm⟩:=ha;refine aF (L:=[qP 317 [a,.func (.func g) first cap] (.int .i64 (cT p a.els 0))]) (elist_cons (gH hx) aE) aH (by kernel_rfl) Tryz.func295 Tryz.ntmps295 Tryz.results295 rfl rfl (aA (bX hs fun x h=>(tk_pat x (hD x (hm x h))).1).und (aA hu.und aD)) aG ?_;simp +contextual +decide (maxSteps:=1000000) only [↓ wP,wQ,wS,eE];rw [iT]
theorem aDe {g:FuncId} {first cap:List AV} {D:AV->Prop} (hD:∀ x,D x->zG x) (p:AV->Bool) (hu:UnderE 0 (.func (.func g) first cap)) (h:∀ x,D x->Abs.Returns Tryz.prog g (first++[x]++cap) (.bool (p x))) (x:AV) (hDx:D x):
 Abs.Returns Tryz.prog 229 ([]++[x]++[.pf (.func (.func g) first cap)]) (.bool (!p x)):=by
 show Abs.Returns Tryz.prog 229 [x,.pf (.func (.func g) first cap)] (.bool (!p x));refine aF (L:=[nI g first cap D fun x=>.bool (p x)]) (elist_cons (dS h) aE) aH (by kernel_rfl) Tryz.func229 Tryz.ntmps229 Tryz.results229 rfl rfl (aA (tk_con x (hD x hDx)).1.und (aA (bQ hu).und aD)) aG ?_;obtain ⟨_,cs,rfl,hcl,hca⟩:=tk_con x (hD x hDx)
 have hz:0+2<=cs.length:=by omega
 have he:=fun {s:Sto}=>bK (g:=g) (first:=first) (cap:=cap) (D:=D) (p:=fun x=>.bool (p x)) (L:=[]) (s:=s) hDx
 simp +contextual +decide (maxSteps:=1000000) only [↓ wP,wQ,tf,Nat.reduceAdd,wS,he,hcl,hca,bH hcl]
theorem aIi {g:FuncId} {first cap:List AV} {D:AV->Prop} (hD:∀ x,D x->zG x) (p:AV->Bool) (hu:UnderE 0 (.func (.func g) first cap)) (h:∀ x,D x->Abs.Returns Tryz.prog g (first++[x]++cap) (.bool (p x))) {a:AV} (ha:TSl D a):
 Abs.Returns Tryz.prog 177 [a,.func (.func g) first cap] (.bool (a.els.all p)):=by
 have hc:=ML (first:=[]) (cap:=[.pf (.func (.func g) first cap)]) hD (fun x=>!p x) (cL (fun _ h=>nomatch h) (by intro x hx;simp at hx;subst hx;exact bQ hu)) (aDe hD p hu h) ha
 have hb:∀ args s,KL (.func (.func 229) [] [.ptr 0 0 0]) (fun b=>b=a) (fun s=>s.get 0=some (aS 0 [.func (.func g) first cap])) args s->bG Tryz.prog 228 args s (.ret (.bool (a.els.any fun x=>!p x)) none):=fun args s hs=>by
  match args,hs with
  | [b,f],⟨h1,h2,h3⟩=>
    subst h1;subst h2;obtain ⟨xs,hsl,hm⟩:=ha;exact gX hc eX ⟨.und _ (bX hsl fun x h=>(tk_con x (hD x (hm x h))).1).und,cW h3 rfl (by intro x hx;simp at hx;subst hx;exact hu.und),trivial⟩
 obtain ⟨xs,hs,hm⟩:=ha;refine aF (L:=[entB 228 _ fun _=>.bool (a.els.any fun x=>!p x)]) (elist_cons (entB_ok hb) aE) aH (by kernel_rfl) Tryz.func177 Tryz.ntmps177 Tryz.results177 rfl rfl (aA (bX hs fun x h=>(tk_con x (hD x (hm x h))).1).und (aA hu.und aD)) aG ?_
 have he:∀ {s:Sto},s.get 0=some (aS 0 [.func (.func g) first cap])->aV [entB 228 (KL (.func (.func 229) [] [.ptr 0 0 0]) (fun b=>b=a) fun s=>s.get 0=some (aS 0 [.func (.func g) first cap])) fun _=>.bool (a.els.any fun x=>!p x)] 228 [a,.func (.func 229) [] [.ptr 0 0 0]] s=some (.ret (.bool (a.els.any fun x=>!p x)) none):=fun hs=>cR ⟨rfl,rfl,hs⟩
 simp +contextual +decide (maxSteps:=1000000) only [↓ wP,wQ,Nat.reduceAdd,wS,he];rw [<-List.not_all_eq_any_not,Bool.not_not]
theorem XJ {g:FuncId} {first cap:List AV} {D:AV->Prop} (hD:∀ x,D x->eO x) (p:AV->Bool) (hu:UnderE 0 (.func (.func g) first cap)) (h:∀ x,D x->Abs.Returns Tryz.prog g (first++[x]++cap) (.bool (p x))) (x:AV) (hDx:D x):
 Abs.Returns Tryz.prog 232 ([]++[x]++[.pf (.func (.func g) first cap)]) (.bool (!p x)):=by
 show Abs.Returns Tryz.prog 232 [x,.pf (.func (.func g) first cap)] (.bool (!p x));refine aF (L:=[nI g first cap D fun x=>.bool (p x)]) (elist_cons (dS h) aE) aH (by kernel_rfl) Tryz.func232 Tryz.ntmps232 Tryz.results232 rfl rfl (aA (tk_node x (hD x hDx)).1.und (aA (bQ hu).und aD)) aG ?_;obtain ⟨_,cs,rfl,hcl,hca⟩:=tk_node x (hD x hDx)
 have hz:0+4<=cs.length:=by omega
 have he:=fun {s:Sto}=>bK (g:=g) (first:=first) (cap:=cap) (D:=D) (p:=fun x=>.bool (p x)) (L:=[]) (s:=s) hDx
 simp +contextual +decide (maxSteps:=1000000) only [↓ wP,wQ,tf,Nat.reduceAdd,wS,he,hcl,hca,bH hcl]
theorem aDf {g:FuncId} {first cap:List AV} {D:AV->Prop} (hD:∀ x,D x->eO x) (p:AV->Bool) (hu:UnderE 0 (.func (.func g) first cap)) (h:∀ x,D x->Abs.Returns Tryz.prog g (first++[x]++cap) (.bool (p x))) {a:AV} (ha:TSl D a):
 Abs.Returns Tryz.prog 182 [a,.func (.func g) first cap] (.bool (a.els.all p)):=by
 have hc:=IQ (first:=[]) (cap:=[.pf (.func (.func g) first cap)]) hD (fun x=>!p x) (cL (fun _ h=>nomatch h) (by intro x hx;simp at hx;subst hx;exact bQ hu)) (XJ hD p hu h) ha
 have hb:∀ args s,KL (.func (.func 232) [] [.ptr 0 0 0]) (fun b=>b=a) (fun s=>s.get 0=some (aS 0 [.func (.func g) first cap])) args s->bG Tryz.prog 231 args s (.ret (.bool (a.els.any fun x=>!p x)) none):=fun args s hs=>by
  match args,hs with
  | [b,f],⟨h1,h2,h3⟩=>
    subst h1;subst h2;obtain ⟨xs,hsl,hm⟩:=ha;exact gX hc eX ⟨.und _ (bX hsl fun x h=>(tk_node x (hD x (hm x h))).1).und,cW h3 rfl (by intro x hx;simp at hx;subst hx;exact hu.und),trivial⟩
 obtain ⟨xs,hs,hm⟩:=ha;refine aF (L:=[entB 231 _ fun _=>.bool (a.els.any fun x=>!p x)]) (elist_cons (entB_ok hb) aE) aH (by kernel_rfl) Tryz.func182 Tryz.ntmps182 Tryz.results182 rfl rfl (aA (bX hs fun x h=>(tk_node x (hD x (hm x h))).1).und (aA hu.und aD)) aG ?_
 have he:∀ {s:Sto},s.get 0=some (aS 0 [.func (.func g) first cap])->aV [entB 231 (KL (.func (.func 232) [] [.ptr 0 0 0]) (fun b=>b=a) fun s=>s.get 0=some (aS 0 [.func (.func g) first cap])) fun _=>.bool (a.els.any fun x=>!p x)] 231 [a,.func (.func 232) [] [.ptr 0 0 0]] s=some (.ret (.bool (a.els.any fun x=>!p x)) none):=fun hs=>cR ⟨rfl,rfl,hs⟩
 simp +contextual +decide (maxSteps:=1000000) only [↓ wP,wQ,Nat.reduceAdd,wS,he];rw [<-List.not_all_eq_any_not,Bool.not_not]
theorem aDg {g:FuncId} {first cap:List AV} {D:AV->Prop} (hD:∀ x,D x->vQ x) (p:AV->Bool) (hu:UnderE 0 (.func (.func g) first cap)) (h:∀ x,D x->Abs.Returns Tryz.prog g (first++[x]++cap) (.bool (p x))) (x:AV) (hDx:D x):
 Abs.Returns Tryz.prog 296 ([]++[x]++[.pf (.func (.func g) first cap)]) (.bool (!p x)):=by
 show Abs.Returns Tryz.prog 296 [x,.pf (.func (.func g) first cap)] (.bool (!p x));refine aF (L:=[nI g first cap D fun x=>.bool (p x)]) (elist_cons (dS h) aE) aH (by kernel_rfl) Tryz.func296 Tryz.ntmps296 Tryz.results296 rfl rfl (aA (tk_pat x (hD x hDx)).1.und (aA (bQ hu).und aD)) aG ?_;obtain ⟨_,cs,rfl,hcl,hca⟩:=tk_pat x (hD x hDx)
 have hz:0+4<=cs.length:=by omega
 have he:=fun {s:Sto}=>bK (g:=g) (first:=first) (cap:=cap) (D:=D) (p:=fun x=>.bool (p x)) (L:=[]) (s:=s) hDx
 simp +contextual +decide (maxSteps:=1000000) only [↓ wP,wQ,tf,Nat.reduceAdd,wS,he,hcl,hca,bH hcl]
theorem UP {g:FuncId} {first cap:List AV} {D:AV->Prop} (hD:∀ x,D x->vQ x) (p:AV->Bool) (hu:UnderE 0 (.func (.func g) first cap)) (h:∀ x,D x->Abs.Returns Tryz.prog g (first++[x]++cap) (.bool (p x))) {a:AV} (ha:TSl D a):
 Abs.Returns Tryz.prog 238 [a,.func (.func g) first cap] (.bool (a.els.all p)):=by
 have hc:=MN (first:=[]) (cap:=[.pf (.func (.func g) first cap)]) hD (fun x=>!p x) (cL (fun _ h=>nomatch h) (by intro x hx;simp at hx;subst hx;exact bQ hu)) (aDg hD p hu h) ha
 have hb:∀ args s,KL (.func (.func 296) [] [.ptr 0 0 0]) (fun b=>b=a) (fun s=>s.get 0=some (aS 0 [.func (.func g) first cap])) args s->bG Tryz.prog 295 args s (.ret (.bool (a.els.any fun x=>!p x)) none):=fun args s hs=>by
  match args,hs with
  | [b,f],⟨h1,h2,h3⟩=>
    subst h1;subst h2;obtain ⟨xs,hsl,hm⟩:=ha;exact gX hc eX ⟨.und _ (bX hsl fun x h=>(tk_pat x (hD x (hm x h))).1).und,cW h3 rfl (by intro x hx;simp at hx;subst hx;exact hu.und),trivial⟩
 obtain ⟨xs,hs,hm⟩:=ha;refine aF (L:=[entB 295 _ fun _=>.bool (a.els.any fun x=>!p x)]) (elist_cons (entB_ok hb) aE) aH (by kernel_rfl) Tryz.func238 Tryz.ntmps238 Tryz.results238 rfl rfl (aA (bX hs fun x h=>(tk_pat x (hD x (hm x h))).1).und (aA hu.und aD)) aG ?_
 have he:∀ {s:Sto},s.get 0=some (aS 0 [.func (.func g) first cap])->aV [entB 295 (KL (.func (.func 296) [] [.ptr 0 0 0]) (fun b=>b=a) fun s=>s.get 0=some (aS 0 [.func (.func g) first cap])) fun _=>.bool (a.els.any fun x=>!p x)] 295 [a,.func (.func 296) [] [.ptr 0 0 0]] s=some (.ret (.bool (a.els.any fun x=>!p x)) none):=fun hs=>cR ⟨rfl,rfl,hs⟩
 simp +contextual +decide (maxSteps:=1000000) only [↓ wP,wQ,Nat.reduceAdd,wS,he];rw [<-List.not_all_eq_any_not,Bool.not_not]
theorem aDh {g:FuncId} {first cap:List AV} {D:AV->Prop} (hD:∀ x,D x->cS x) (p:AV->Bool) (hu:UnderE 0 (.func (.func g) first cap)) (h:∀ x,D x->Abs.Returns Tryz.prog g (first++[x]++cap) (.bool (p x))) (x:AV) (hDx:D x):
 Abs.Returns Tryz.prog 240 ([]++[x]++[.pf (.func (.func g) first cap)]) (.bool (!p x)):=by
 show Abs.Returns Tryz.prog 240 [x,.pf (.func (.func g) first cap)] (.bool (!p x));refine aF (L:=[nI g first cap D fun x=>.bool (p x)]) (elist_cons (dS h) aE) aH (by kernel_rfl) Tryz.func240 Tryz.ntmps240 Tryz.results240 rfl rfl (aA (tu_int x (hD x hDx)).1.und (aA (bQ hu).und aD)) aG ?_;have hca:=(tu_int x (hD x hDx)).2
 have he:=fun {s:Sto}=>bK (g:=g) (first:=first) (cap:=cap) (D:=D) (p:=fun x=>.bool (p x)) (L:=[]) (s:=s) hDx
 simp +contextual +decide (maxSteps:=1000000) only [↓ wP,wQ,tf,wS,he]
theorem aIj {g:FuncId} {first cap:List AV} {D:AV->Prop} (hD:∀ x,D x->cS x) (p:AV->Bool) (hu:UnderE 0 (.func (.func g) first cap)) (h:∀ x,D x->Abs.Returns Tryz.prog g (first++[x]++cap) (.bool (p x))) {a:AV} (ha:TSl D a):
 Abs.Returns Tryz.prog 184 [a,.func (.func g) first cap] (.bool (a.els.all p)):=by
 have hc:=AC (first:=[]) (cap:=[.pf (.func (.func g) first cap)]) hD (fun x=>!p x) (cL (fun _ h=>nomatch h) (by intro x hx;simp at hx;subst hx;exact bQ hu)) (aDh hD p hu h) ha
 have hb:∀ args s,KL (.func (.func 240) [] [.ptr 0 0 0]) (fun b=>b=a) (fun s=>s.get 0=some (aS 0 [.func (.func g) first cap])) args s->bG Tryz.prog 239 args s (.ret (.bool (a.els.any fun x=>!p x)) none):=fun args s hs=>by
  match args,hs with
  | [b,f],⟨h1,h2,h3⟩=>
    subst h1;subst h2;obtain ⟨xs,hsl,hm⟩:=ha;exact gX hc eX ⟨.und _ (bX hsl fun x h=>(tu_int x (hD x (hm x h))).1).und,cW h3 rfl (by intro x hx;simp at hx;subst hx;exact hu.und),trivial⟩
 obtain ⟨xs,hs,hm⟩:=ha;refine aF (L:=[entB 239 _ fun _=>.bool (a.els.any fun x=>!p x)]) (elist_cons (entB_ok hb) aE) aH (by kernel_rfl) Tryz.func184 Tryz.ntmps184 Tryz.results184 rfl rfl (aA (bX hs fun x h=>(tu_int x (hD x (hm x h))).1).und (aA hu.und aD)) aG ?_
 have he:∀ {s:Sto},s.get 0=some (aS 0 [.func (.func g) first cap])->aV [entB 239 (KL (.func (.func 240) [] [.ptr 0 0 0]) (fun b=>b=a) fun s=>s.get 0=some (aS 0 [.func (.func g) first cap])) fun _=>.bool (a.els.any fun x=>!p x)] 239 [a,.func (.func 240) [] [.ptr 0 0 0]] s=some (.ret (.bool (a.els.any fun x=>!p x)) none):=fun hs=>cR ⟨rfl,rfl,hs⟩
 simp +contextual +decide (maxSteps:=1000000) only [↓ wP,wQ,Nat.reduceAdd,wS,he];rw [<-List.not_all_eq_any_not,Bool.not_not]
theorem aDi {g:FuncId} {first cap:List AV} {D:AV->Prop} (hD:∀ x,D x->zF x) (p:AV->Bool) (hu:UnderE 0 (.func (.func g) first cap)) (h:∀ x,D x->Abs.Returns Tryz.prog g (first++[x]++cap) (.bool (p x))) (x:AV) (hDx:D x):
 Abs.Returns Tryz.prog 243 ([]++[x]++[.pf (.func (.func g) first cap)]) (.bool (!p x)):=by
 show Abs.Returns Tryz.prog 243 [x,.pf (.func (.func g) first cap)] (.bool (!p x));refine aF (L:=[nI g first cap D fun x=>.bool (p x)]) (elist_cons (dS h) aE) aH (by kernel_rfl) Tryz.func243 Tryz.ntmps243 Tryz.results243 rfl rfl (aA (tk_val x (hD x hDx)).1.und (aA (bQ hu).und aD)) aG ?_;obtain ⟨_,cs,rfl,hcl,hca⟩:=tk_val x (hD x hDx)
 have hz:0+2<=cs.length:=by omega
 have he:=fun {s:Sto}=>bK (g:=g) (first:=first) (cap:=cap) (D:=D) (p:=fun x=>.bool (p x)) (L:=[]) (s:=s) hDx
 simp +contextual +decide (maxSteps:=1000000) only [↓ wP,wQ,tf,Nat.reduceAdd,wS,he,hcl,hca,bH hcl]
theorem aIk {g:FuncId} {first cap:List AV} {D:AV->Prop} (hD:∀ x,D x->zF x) (p:AV->Bool) (hu:UnderE 0 (.func (.func g) first cap)) (h:∀ x,D x->Abs.Returns Tryz.prog g (first++[x]++cap) (.bool (p x))) {a:AV} (ha:TSl D a):
 Abs.Returns Tryz.prog 188 [a,.func (.func g) first cap] (.bool (a.els.all p)):=by
 have hc:=MJ (first:=[]) (cap:=[.pf (.func (.func g) first cap)]) hD (fun x=>!p x) (cL (fun _ h=>nomatch h) (by intro x hx;simp at hx;subst hx;exact bQ hu)) (aDi hD p hu h) ha
 have hb:∀ args s,KL (.func (.func 243) [] [.ptr 0 0 0]) (fun b=>b=a) (fun s=>s.get 0=some (aS 0 [.func (.func g) first cap])) args s->bG Tryz.prog 242 args s (.ret (.bool (a.els.any fun x=>!p x)) none):=fun args s hs=>by
  match args,hs with
  | [b,f],⟨h1,h2,h3⟩=>
    subst h1;subst h2;obtain ⟨xs,hsl,hm⟩:=ha;exact gX hc eX ⟨.und _ (bX hsl fun x h=>(tk_val x (hD x (hm x h))).1).und,cW h3 rfl (by intro x hx;simp at hx;subst hx;exact hu.und),trivial⟩
 obtain ⟨xs,hs,hm⟩:=ha;refine aF (L:=[entB 242 _ fun _=>.bool (a.els.any fun x=>!p x)]) (elist_cons (entB_ok hb) aE) aH (by kernel_rfl) Tryz.func188 Tryz.ntmps188 Tryz.results188 rfl rfl (aA (bX hs fun x h=>(tk_val x (hD x (hm x h))).1).und (aA hu.und aD)) aG ?_
 have he:∀ {s:Sto},s.get 0=some (aS 0 [.func (.func g) first cap])->aV [entB 242 (KL (.func (.func 243) [] [.ptr 0 0 0]) (fun b=>b=a) fun s=>s.get 0=some (aS 0 [.func (.func g) first cap])) fun _=>.bool (a.els.any fun x=>!p x)] 242 [a,.func (.func 243) [] [.ptr 0 0 0]] s=some (.ret (.bool (a.els.any fun x=>!p x)) none):=fun hs=>cR ⟨rfl,rfl,hs⟩
 simp +contextual +decide (maxSteps:=1000000) only [↓ wP,wQ,Nat.reduceAdd,wS,he];rw [<-List.not_all_eq_any_not,Bool.not_not]
theorem aIl {g:FuncId} {first cap:List AV} {D:AV->Prop} (hD:∀ x,D x->UN x) (p:AV->Bool) (hu:UnderE 0 (.func (.func g) first cap)) (h:∀ x,D x->Abs.Returns Tryz.prog g (first++[x]++cap) (.bool (p x))) (x:AV) (hDx:D x):
 Abs.Returns Tryz.prog 300 ([]++[x]++[.pf (.func (.func g) first cap)]) (.bool (!p x)):=by
 show Abs.Returns Tryz.prog 300 [x,.pf (.func (.func g) first cap)] (.bool (!p x));refine aF (L:=[nI g first cap D fun x=>.bool (p x)]) (elist_cons (dS h) aE) aH (by kernel_rfl) Tryz.func300 Tryz.ntmps300 Tryz.results300 rfl rfl (aA (tk_fr x (hD x hDx)).1.und (aA (bQ hu).und aD)) aG ?_;obtain ⟨_,cs,rfl,hcl,hca⟩:=tk_fr x (hD x hDx)
 have hz:0+3<=cs.length:=by omega
 have he:=fun {s:Sto}=>bK (g:=g) (first:=first) (cap:=cap) (D:=D) (p:=fun x=>.bool (p x)) (L:=[]) (s:=s) hDx
 simp +contextual +decide (maxSteps:=1000000) only [↓ wP,wQ,tf,Nat.reduceAdd,wS,he,hcl,hca,bH hcl]
theorem aDj {g:FuncId} {first cap:List AV} {D:AV->Prop} (hD:∀ x,D x->UN x) (p:AV->Bool) (hu:UnderE 0 (.func (.func g) first cap)) (h:∀ x,D x->Abs.Returns Tryz.prog g (first++[x]++cap) (.bool (p x))) {a:AV} (ha:TSl D a):
 Abs.Returns Tryz.prog 244 [a,.func (.func g) first cap] (.bool (a.els.all p)):=by
 have hc:=RB (first:=[]) (cap:=[.pf (.func (.func g) first cap)]) hD (fun x=>!p x) (cL (fun _ h=>nomatch h) (by intro x hx;simp at hx;subst hx;exact bQ hu)) (aIl hD p hu h) ha
 have hb:∀ args s,KL (.func (.func 300) [] [.ptr 0 0 0]) (fun b=>b=a) (fun s=>s.get 0=some (aS 0 [.func (.func g) first cap])) args s->bG Tryz.prog 299 args s (.ret (.bool (a.els.any fun x=>!p x)) none):=fun args s hs=>by
  match args,hs with
  | [b,f],⟨h1,h2,h3⟩=>
    subst h1;subst h2;obtain ⟨xs,hsl,hm⟩:=ha;exact gX hc eX ⟨.und _ (bX hsl fun x h=>(tk_fr x (hD x (hm x h))).1).und,cW h3 rfl (by intro x hx;simp at hx;subst hx;exact hu.und),trivial⟩
 obtain ⟨xs,hs,hm⟩:=ha;refine aF (L:=[entB 299 _ fun _=>.bool (a.els.any fun x=>!p x)]) (elist_cons (entB_ok hb) aE) aH (by kernel_rfl) Tryz.func244 Tryz.ntmps244 Tryz.results244 rfl rfl (aA (bX hs fun x h=>(tk_fr x (hD x (hm x h))).1).und (aA hu.und aD)) aG ?_
 have he:∀ {s:Sto},s.get 0=some (aS 0 [.func (.func g) first cap])->aV [entB 299 (KL (.func (.func 300) [] [.ptr 0 0 0]) (fun b=>b=a) fun s=>s.get 0=some (aS 0 [.func (.func g) first cap])) fun _=>.bool (a.els.any fun x=>!p x)] 299 [a,.func (.func 300) [] [.ptr 0 0 0]] s=some (.ret (.bool (a.els.any fun x=>!p x)) none):=fun hs=>cR ⟨rfl,rfl,hs⟩
 simp +contextual +decide (maxSteps:=1000000) only [↓ wP,wQ,Nat.reduceAdd,wS,he];rw [<-List.not_all_eq_any_not,Bool.not_not]
theorem aIm {g:FuncId} {first cap:List AV} {D:AV->Prop} (hD:∀ x,D x->nG x) (p:AV->Bool) (hu:UnderE 0 (.func (.func g) first cap)) (h:∀ x,D x->Abs.Returns Tryz.prog g (first++[x]++cap) (.bool (p x))) (x:AV) (hDx:D x):
 Abs.Returns Tryz.prog 187 ([]++[x]++[.pf (.func (.func g) first cap)]) (.bool (!p x)):=by
 show Abs.Returns Tryz.prog 187 [x,.pf (.func (.func g) first cap)] (.bool (!p x));refine aF (L:=[nI g first cap D fun x=>.bool (p x)]) (elist_cons (dS h) aE) aH (by kernel_rfl) Tryz.func187 Tryz.ntmps187 Tryz.results187 rfl rfl (aA (tk_ob x (hD x hDx)).1.und (aA (bQ hu).und aD)) aG ?_;obtain ⟨_,cs,rfl,hcl,hca⟩:=tk_ob x (hD x hDx)
 have hz:0+4<=cs.length:=by omega
 have he:=fun {s:Sto}=>bK (g:=g) (first:=first) (cap:=cap) (D:=D) (p:=fun x=>.bool (p x)) (L:=[]) (s:=s) hDx
 simp +contextual +decide (maxSteps:=1000000) only [↓ wP,wQ,tf,Nat.reduceAdd,wS,he,hcl,hca,bH hcl]
theorem aMu {g:FuncId} {first cap:List AV} {D:AV->Prop} (hD:∀ x,D x->nG x) (p:AV->Bool) (hu:UnderE 0 (.func (.func g) first cap)) (h:∀ x,D x->Abs.Returns Tryz.prog g (first++[x]++cap) (.bool (p x))) {a:AV} (ha:TSl D a):
 Abs.Returns Tryz.prog 140 [a,.func (.func g) first cap] (.bool (a.els.all p)):=by
 have hc:=RC (first:=[]) (cap:=[.pf (.func (.func g) first cap)]) hD (fun x=>!p x) (cL (fun _ h=>nomatch h) (by intro x hx;simp at hx;subst hx;exact bQ hu)) (aIm hD p hu h) ha
 have hb:∀ args s,KL (.func (.func 187) [] [.ptr 0 0 0]) (fun b=>b=a) (fun s=>s.get 0=some (aS 0 [.func (.func g) first cap])) args s->bG Tryz.prog 186 args s (.ret (.bool (a.els.any fun x=>!p x)) none):=fun args s hs=>by
  match args,hs with
  | [b,f],⟨h1,h2,h3⟩=>
    subst h1;subst h2;obtain ⟨xs,hsl,hm⟩:=ha;exact gX hc eX ⟨.und _ (bX hsl fun x h=>(tk_ob x (hD x (hm x h))).1).und,cW h3 rfl (by intro x hx;simp at hx;subst hx;exact hu.und),trivial⟩
 obtain ⟨xs,hs,hm⟩:=ha;refine aF (L:=[entB 186 _ fun _=>.bool (a.els.any fun x=>!p x)]) (elist_cons (entB_ok hb) aE) aH (by kernel_rfl) Tryz.func140 Tryz.ntmps140 Tryz.results140 rfl rfl (aA (bX hs fun x h=>(tk_ob x (hD x (hm x h))).1).und (aA hu.und aD)) aG ?_
 have he:∀ {s:Sto},s.get 0=some (aS 0 [.func (.func g) first cap])->aV [entB 186 (KL (.func (.func 187) [] [.ptr 0 0 0]) (fun b=>b=a) fun s=>s.get 0=some (aS 0 [.func (.func g) first cap])) fun _=>.bool (a.els.any fun x=>!p x)] 186 [a,.func (.func 187) [] [.ptr 0 0 0]] s=some (.ret (.bool (a.els.any fun x=>!p x)) none):=fun hs=>cR ⟨rfl,rfl,hs⟩
 simp +contextual +decide (maxSteps:=1000000) only [↓ wP,wQ,Nat.reduceAdd,wS,he];rw [<-List.not_all_eq_any_not,Bool.not_not]
theorem aDk {g:FuncId} {first cap:List AV} {D:AV->Prop} (hD:∀ x,D x->nH x) (p:AV->Bool) (hu:UnderE 0 (.func (.func g) first cap)) (h:∀ x,D x->Abs.Returns Tryz.prog g (first++[x]++cap) (.bool (p x))) (x:AV) (hDx:D x):
 Abs.Returns Tryz.prog 197 ([]++[x]++[.pf (.func (.func g) first cap)]) (.bool (!p x)):=by
 show Abs.Returns Tryz.prog 197 [x,.pf (.func (.func g) first cap)] (.bool (!p x));refine aF (L:=[nI g first cap D fun x=>.bool (p x)]) (elist_cons (dS h) aE) aH (by kernel_rfl) Tryz.func197 Tryz.ntmps197 Tryz.results197 rfl rfl (aA (tk_out x (hD x hDx)).1.und (aA (bQ hu).und aD)) aG ?_;obtain ⟨_,cs,rfl,hcl,hca⟩:=tk_out x (hD x hDx)
 have hz:0+2<=cs.length:=by omega
 have he:=fun {s:Sto}=>bK (g:=g) (first:=first) (cap:=cap) (D:=D) (p:=fun x=>.bool (p x)) (L:=[]) (s:=s) hDx
 simp +contextual +decide (maxSteps:=1000000) only [↓ wP,wQ,tf,Nat.reduceAdd,wS,he,hcl,hca,bH hcl]
theorem aIn {g:FuncId} {first cap:List AV} {D:AV->Prop} (hD:∀ x,D x->nH x) (p:AV->Bool) (hu:UnderE 0 (.func (.func g) first cap)) (h:∀ x,D x->Abs.Returns Tryz.prog g (first++[x]++cap) (.bool (p x))) {a:AV} (ha:TSl D a):
 Abs.Returns Tryz.prog 143 [a,.func (.func g) first cap] (.bool (a.els.all p)):=by
 have hc:=MK (first:=[]) (cap:=[.pf (.func (.func g) first cap)]) hD (fun x=>!p x) (cL (fun _ h=>nomatch h) (by intro x hx;simp at hx;subst hx;exact bQ hu)) (aDk hD p hu h) ha
 have hb:∀ args s,KL (.func (.func 197) [] [.ptr 0 0 0]) (fun b=>b=a) (fun s=>s.get 0=some (aS 0 [.func (.func g) first cap])) args s->bG Tryz.prog 196 args s (.ret (.bool (a.els.any fun x=>!p x)) none):=fun args s hs=>by
  match args,hs with
  | [b,f],⟨h1,h2,h3⟩=>
    subst h1;subst h2;obtain ⟨xs,hsl,hm⟩:=ha;exact gX hc eX ⟨.und _ (bX hsl fun x h=>(tk_out x (hD x (hm x h))).1).und,cW h3 rfl (by intro x hx;simp at hx;subst hx;exact hu.und),trivial⟩
 obtain ⟨xs,hs,hm⟩:=ha;refine aF (L:=[entB 196 _ fun _=>.bool (a.els.any fun x=>!p x)]) (elist_cons (entB_ok hb) aE) aH (by kernel_rfl) Tryz.func143 Tryz.ntmps143 Tryz.results143 rfl rfl (aA (bX hs fun x h=>(tk_out x (hD x (hm x h))).1).und (aA hu.und aD)) aG ?_
 have he:∀ {s:Sto},s.get 0=some (aS 0 [.func (.func g) first cap])->aV [entB 196 (KL (.func (.func 197) [] [.ptr 0 0 0]) (fun b=>b=a) fun s=>s.get 0=some (aS 0 [.func (.func g) first cap])) fun _=>.bool (a.els.any fun x=>!p x)] 196 [a,.func (.func 197) [] [.ptr 0 0 0]] s=some (.ret (.bool (a.els.any fun x=>!p x)) none):=fun hs=>cR ⟨rfl,rfl,hs⟩
 simp +contextual +decide (maxSteps:=1000000) only [↓ wP,wQ,Nat.reduceAdd,wS,he];rw [<-List.not_all_eq_any_not,Bool.not_not]
theorem aDl {g:FuncId} {first cap:List AV} {D:AV->Prop} (hD:∀ x,D x->cS x) (p:AV->Bool) (hu:UnderE 0 (.func (.func g) first cap)) (h:∀ x,D x->Abs.Returns Tryz.prog g (first++[x]++cap) (.bool (p x))) (x:AV) (hDx:D x):
 Abs.Returns Tryz.prog 247 ([]++[x]++[.pf (.func (.func g) first cap)]) (.bool (!p x)):=by
 show Abs.Returns Tryz.prog 247 [x,.pf (.func (.func g) first cap)] (.bool (!p x));refine aF (L:=[nI g first cap D fun x=>.bool (p x)]) (elist_cons (dS h) aE) aH (by kernel_rfl) Tryz.func247 Tryz.ntmps247 Tryz.results247 rfl rfl (aA (tu_int x (hD x hDx)).1.und (aA (bQ hu).und aD)) aG ?_;have hca:=(tu_int x (hD x hDx)).2
 have he:=fun {s:Sto}=>bK (g:=g) (first:=first) (cap:=cap) (D:=D) (p:=fun x=>.bool (p x)) (L:=[]) (s:=s) hDx
 simp +contextual +decide (maxSteps:=1000000) only [↓ wP,wQ,tf,wS,he]
theorem aIo {g:FuncId} {first cap:List AV} {D:AV->Prop} (hD:∀ x,D x->cS x) (p:AV->Bool) (hu:UnderE 0 (.func (.func g) first cap)) (h:∀ x,D x->Abs.Returns Tryz.prog g (first++[x]++cap) (.bool (p x))) {a:AV} (ha:TSl D a):
 Abs.Returns Tryz.prog 192 [a,.func (.func g) first cap] (.bool (a.els.all p)):=by
 have hc:=AC (first:=[]) (cap:=[.pf (.func (.func g) first cap)]) hD (fun x=>!p x) (cL (fun _ h=>nomatch h) (by intro x hx;simp at hx;subst hx;exact bQ hu)) (aDl hD p hu h) ha
 have hb:∀ args s,KL (.func (.func 247) [] [.ptr 0 0 0]) (fun b=>b=a) (fun s=>s.get 0=some (aS 0 [.func (.func g) first cap])) args s->bG Tryz.prog 239 args s (.ret (.bool (a.els.any fun x=>!p x)) none):=fun args s hs=>by
  match args,hs with
  | [b,f],⟨h1,h2,h3⟩=>
    subst h1;subst h2;obtain ⟨xs,hsl,hm⟩:=ha;exact gX hc eX ⟨.und _ (bX hsl fun x h=>(tu_int x (hD x (hm x h))).1).und,cW h3 rfl (by intro x hx;simp at hx;subst hx;exact hu.und),trivial⟩
 obtain ⟨xs,hs,hm⟩:=ha;refine aF (L:=[entB 239 _ fun _=>.bool (a.els.any fun x=>!p x)]) (elist_cons (entB_ok hb) aE) aH (by kernel_rfl) Tryz.func192 Tryz.ntmps192 Tryz.results192 rfl rfl (aA (bX hs fun x h=>(tu_int x (hD x (hm x h))).1).und (aA hu.und aD)) aG ?_
 have he:∀ {s:Sto},s.get 0=some (aS 0 [.func (.func g) first cap])->aV [entB 239 (KL (.func (.func 247) [] [.ptr 0 0 0]) (fun b=>b=a) fun s=>s.get 0=some (aS 0 [.func (.func g) first cap])) fun _=>.bool (a.els.any fun x=>!p x)] 239 [a,.func (.func 247) [] [.ptr 0 0 0]] s=some (.ret (.bool (a.els.any fun x=>!p x)) none):=fun hs=>cR ⟨rfl,rfl,hs⟩
 simp +contextual +decide (maxSteps:=1000000) only [↓ wP,wQ,Nat.reduceAdd,wS,he];rw [<-List.not_all_eq_any_not,Bool.not_not]
end
end Go.Proofs.YtkocnhkbgcjpbaaGreat
