/-
  The program of images: attempts.
-/
import Derived.Test.YtajngkkihadgfaaHr
set_option linter.unusedVariables false
set_option linter.unusedSimpArgs false
namespace Go.Proofs.Ytajngkkihadgfaa
open Go.Abs Go Go.Abs.TryF
noncomputable section
set_option maxRecDepth 10000
theorem aNp:abin Try.prog .eql 20 (.tmp 4) (.const .nilIface) .nili (KD .nilIface)=some (.bool true):=by kernel_rfl
theorem aGc {k:Nat}:abin Try.prog .eql 20 (.tmp 4) (.const .nilIface) (cC k) (KD .nilIface)=some (.bool false):=by kernel_rfl
theorem sF {s:Sto} {v:AV} {e:Env} (h:s.n<=e.s.low) (hv:v.under s.n 100=true) (hr:e.r=.no):dE s v e=none:=by
 unfold dE
 rw [hr,hv,show Nat.ble s.n e.s.low=true by simpa using h]
 rfl
theorem aBc {O:bP} (c:Nat) (n low:Nat) (o:Tr AObj) (K:CRes->ARec->Prop) (ho:∀ a σ,O 86 a σ=none) (hK:K (.ret (.tuple []) none) .no):
 WcallR Try.prog O (.func (.func 86) [] [.ptr c 0 0]) [] ⟨n,low,o⟩ .no K:=by
 refine vF (first:=[]) (cap:=[.ptr c 0 0]) (args:=[]) (by simp only [EL];exact ho _ _) (by kernel_rfl) Try.func86 rfl ?_
 refine Wk.sound (H:=aR) ?_
 show Wk _ _ _ _ ⟨10,none,86,Tr.leaf.lay 0 [.ptr c 0 0],[],⟨n,n,o⟩,.no⟩ _
 simp +contextual +decide (maxSteps:=1000000) only [↓ wP,wQ,tf,Nat.reduceAdd,ne_eq,DD,DC,aNp]
 refine jO rfl (vs:=[]) rfl ?_
 show K (.ret (.tuple []) (dE ⟨n,low,o⟩ (.tuple []) _)) .no
 have:∀ e:Env,e.s=⟨n,n,o⟩->e.r=.no->dE ⟨n,low,o⟩ (.tuple []) e=none:=by
  intro e h1 h2
  unfold dE
  rw [h1,h2]
  simp [AV.under,EK,show n.ble n=true by simp]
 rw [this _ rfl rfl]
 exact hK
theorem TO {O:bP} (c k:Nat) (n low:Nat) (o:Tr AObj) (hc:c<n) (b:Bool) (hg:o.get c=some (bE 0 [.bool b])) (K:CRes->ARec->Prop)
 (hK:∀ n' low' o',n<=n'->low'<=c->low'<=low->o'.get c=some (bE 0 [.bool false])->(∀ id,id<n->id≠c->o'.get id=o.get id)->K (.ret (.tuple []) (some ⟨n',low',o'⟩)) (.recd (cC k))):
 WcallR Try.prog O (.func (.func 86) [] [.ptr c 0 0]) [] ⟨n,low,o⟩ (.pan (cC k)) K:=by
 refine vF (first:=[]) (cap:=[.ptr c 0 0]) (args:=[]) rfl (by kernel_rfl) Try.func86 rfl ?_
 refine Wk.sound (H:=aR) ?_
 show Wk _ _ _ _ ⟨10,none,86,Tr.leaf.lay 0 [.ptr c 0 0],[],⟨n,n,o⟩,.pan (cC k)⟩ _
 have f1:=bK hc
 simp +contextual +decide (maxSteps:=1000000) only [↓ wP,wQ,tf,Nat.reduceAdd,ne_eq,DD,DC,aGc]
 refine (aLd TP (d:=145) (v:=.agg [.int .i64 (k:Nat)]) (by simp +decide only [↓ aB,aD,aC,cC])).2 ?_
 simp +contextual +decide (maxSteps:=1000000) only [↓ wP,wQ,tf,Nat.reduceAdd,ne_eq,taV,Nat.beq_refl,cond_true,f1,bF,hg]
 refine jO rfl (vs:=[]) rfl ?_
 show K (.ret (.tuple []) (dE ⟨n,low,o⟩ (.tuple []) _)) _
 rw [eL (show Nat.min c (Nat.min n n)<n from Nat.lt_of_le_of_lt (Nat.min_le_left _ _) hc)]
 exact hK (n+1) (Nat.min low (Nat.min c (Nat.min n n))) _ (Nat.le_succ n) (Nat.le_trans (Nat.min_le_right _ _) (Nat.min_le_left _ _)) (Nat.min_le_left _ _) (Tr.get_set_same _ _ _) fun id h1 h2=>by
  rw [Tr.get_set_ne _ _ h2,Tr.get_set_ne _ _ (Nat.ne_of_lt h1),Tr.get_set_ne _ _ (Nat.ne_of_lt h1)]
theorem MJ {O:bP} (g:FuncId) (cap:List AV) (n low:Nat) (o:Tr AObj) (K:CRes->Prop) (ho:∀ a σ,O 45 a σ=none) (ho':∀ a σ,O 86 a σ=none)
 (hf:Wcall Try.prog O (.func (.func g) [] cap) [] ⟨n+1,n,o.set n (bE 0 [.bool false])⟩ fun res=>
   (∃ n' low' o',res=.ret (.tuple []) (some ⟨n',low',o'⟩)/\n+1<=n'/\low'<n/\o'.get n=some (bE 0 [.bool false])/\∀ low'',K (.ret (.bool true) (some ⟨n',low'',o'.set n (bE 0 [.bool true])⟩)))∨
   (∃ k,res=.pan (cC k) none/\(∀ n'' low'' o'',n+1<=n''->(∀ id,id<n->o''.get id=o.get id)->K (.ret (.bool false) (some ⟨n'',low'',o''⟩)))/\K (.ret (.bool false) none))):
 Wcall Try.prog O (.func (.func 45) [] []) [.func (.func g) [] cap] ⟨n,low,o⟩ K:=by
 refine lN (first:=[]) (cap:=[]) (args:=[.func (.func g) [] cap]) (ho _ _) (by kernel_rfl) Try.func45 rfl ?_
 refine Wk.sound (H:=aR) ?_
 show Wk _ _ _ _ ⟨6,none,45,Tr.leaf.lay 0 [.func (.func g) [] cap],[],⟨n,n,o⟩,.no⟩ _
 simp +contextual +decide (maxSteps:=1000000) only [↓ wP,wQ,tf,Nat.reduceAdd,ne_eq,tJ,rA,bF]
 refine (tJ (g:=.func 86) (a:=[]) (b:=[.ptr n 0 0]) (by simp +decide only [↓ aB,aD,aC])).2 ?_
 simp +contextual +decide (maxSteps:=1000000) only [↓ wP,wQ,tf,Nat.reduceAdd,ne_eq,rA,bF,Array.toList_empty]
 refine (cG (first:=[]) (args:=[]) (cap:=cap)).1 (Wcall.mono hf ?_)
 rintro res (⟨n',low',o',rfl,hn,hl,hg,hK⟩ | ⟨k,rfl,hK,hK0⟩)
 ·have f1:=bK (Nat.lt_of_lt_of_le (Nat.lt_succ_self n) hn)
  simp +contextual +decide (maxSteps:=1000000) only [↓ wP,wQ,tf,Nat.reduceAdd,ne_eq,f1,hg]
  refine UG (ds:=[]) rfl rfl (aBc n n' (Nat.min n low') _ _ ho' ⟨rfl,?_⟩)
  refine jO rfl (vs:=[.bool true]) (by rw [Try.results45];simp +contextual +decide (maxSteps:=1000000) only [↓ wP,wQ,tf,Nat.reduceAdd,ne_eq,f1,aL,Option.getD,List.toList_toArray,Option.bind_some]) ?_
  show K (.ret (.bool true) (dE ⟨n,low,o⟩ (.bool true) _))
  rw [eL (show Nat.min n low'<n from Nat.lt_of_le_of_lt (Nat.min_le_right _ _) hl)]
  exact hK _
 ·simp +contextual +decide (maxSteps:=1000000) only [↓ wP,wQ,tf,Nat.reduceAdd,ne_eq]
  refine NC (ds:=[]) rfl rfl (TO n k (n+1) n (o.set n (bE 0 [.bool false])) (Nat.lt_succ_self n) false (Tr.get_set_same _ _ _) _ fun n'' low'' o'' h1 h2 _ h3 h4=>?_)
  have f2:=bK (Nat.lt_of_lt_of_le (Nat.lt_succ_self n) h1)
  refine jO rfl (vs:=[.bool false]) (by rw [Try.results45];simp +contextual +decide (maxSteps:=1000000) only [↓ wP,wQ,tf,Nat.reduceAdd,ne_eq,f2,h3,aL,Option.getD,List.toList_toArray,Option.bind_some]) ?_
  show K (.ret (.bool false) (dE ⟨n,low,o⟩ (.bool false) _))
  rcases Nat.lt_or_ge low'' n with hlt | hge
  ·rw [eL hlt]
   exact hK n'' _ o'' h1 fun id hid=>(h4 id (by omega) (by omega)).trans (Tr.get_set_ne _ _ (by omega))
  ·rw [sF hge rfl rfl]
   exact hK0
end
end Go.Proofs.Ytajngkkihadgfaa
/-
 The program of images: Parse.
-/
namespace Go.Proofs.Ytajngkkihadgfaa
open Go.Abs Go Go.Abs.TryF
noncomputable section
set_option maxRecDepth 10000
def gD (s:List Nat):AV:=match wM s 0 with
 | .ok o _=>if gV o=true/\fZ o=s then .tuple [wU o,.int .i64 0] else .tuple [wU vC,.int .i64 4]
 | .fail _=>.tuple [wU vC,.int .i64 4]
theorem QD {s:List Nat}:Und 0 (gD s):=by
 unfold gD
 split
 ·split<;>exact TZ aV
 ·exact TZ aV
abbrev L11:List kL:=[eP 54 (tG A1 WE),ent 19 wW]
theorem aKr (a:List AV) (σ:Sto):orcL L11 45 a σ=none:=(bJ (by decide)).trans ((nW (by decide)).trans rfl)
theorem aKs (a:List AV) (σ:Sto):orcL L11 86 a σ=none:=(bJ (by decide)).trans ((nW (by decide)).trans rfl)
theorem aKt (a:List AV) (σ:Sto):orcL L11 53 a σ=none:=(bJ (by decide)).trans ((nW (by decide)).trans rfl)
theorem aJc {a:AV} {o:Ob} (h:fG a=some o) (σ:Sto):orcL L11 19 [a] σ=some (.ret (if gV o=true then .tuple [.str (fZ o),.int .i64 0] else .tuple [.str [],.int .i64 2]) none):=by
 rw [bJ (by decide),ent_same];exact congrArg (Option.map _) (sJ h)
theorem aKu {n low:Nat} {o:Tr AObj} {r fid g:Nat} {l:List Nat} {at_:Nat} (h:PrAt ⟨n,low,o⟩ r fid g l at_):orcL L11 54 [.ptr r 0 0] ⟨n,low,o⟩=some (eM WE r fid g l at_ ⟨n,low,o⟩):=eN mN h
def aGd (o:Ob):List AV:=[.int .i64 o.form,.int .i64 o.n,cN o.vals,jK o.frs]
theorem QE (s:List Nat) (hb:By s) (hl:s.length<1099511627776) (o:Tr AObj) (h0:o.get 0=some (bE 0 [.str s])) (h2:o.get 2=some (bE 0 [.int .i64 0,.int .i64 0,.nils,.nils])) (K:CRes->Prop)
 (hK:∀ ob k,wM s 0=.ok ob k->∀ n' low' o',4<=n'->low'<3->o'.get 2=some (bE 0 (aGd ob))->(∀ id,id<4->id≠2->o'.get id=o.get id)->K (.ret (.tuple []) (some ⟨n',low',o'⟩)))
 (hF:∀ k,wM s 0=.fail k->K (.pan (cC k) none)):Wcall Try.prog (orcL L11) (.func (.func 53) [] [.ptr 0 0 0,.ptr 2 0 0]) [] ⟨4,3,o⟩ K:=by
 refine lN (first:=[]) (cap:=[.ptr 0 0 0,.ptr 2 0 0]) (args:=[]) (aKt _ _) (by kernel_rfl) Try.func53 rfl ?_
 refine Wk.sound (H:=aR) ?_
 show Wk _ _ _ _ ⟨7,none,53,Tr.leaf.lay 0 [.ptr 0 0 0,.ptr 2 0 0],[],⟨4,4,o⟩,.no⟩ _
 have hp:PrAt ⟨6,4,(o.set 4 (bE 0 (s.map encB))).set 5 (mK 4 0 s 0)⟩ 5 4 0 s 0:=PrAt.mk' (by decide) (by decide) (Tr.get_set_same _ _ _) (by rw [Tr.get_set_ne _ _ (by decide),Tr.get_set_same]) (by decide) hb hl (Nat.zero_le _)
 have hc:orcL L11 54 [.ptr 5 0 0] ⟨6,4,(o.set 4 (bE 0 (s.map encB))).set 5 (bE 0 [.sl 4 0 0 s.length (.room 1),.int .i64 0])⟩=some (eM WE 5 4 0 s 0 ⟨6,4,(o.set 4 (bE 0 (s.map encB))).set 5 (bE 0 [.sl 4 0 0 s.length (.room 1),.int .i64 0])⟩):=aKu hp
 cases hx:wM s 0 with
 | fail j=>
   rw [cY (show WE s 0=.fail j by unfold WE;rw [hx];rfl)]at hc
   simp +contextual +decide (maxSteps:=1000000) only [↓ wP,wQ,tf,Nat.reduceAdd,ne_eq,h0,h2,bF,hc]
   refine QT rfl ?_
   show K (.pan (cC j) (dE ⟨4,3,o⟩ (cC j) _))
   rw [sF (by show 4<=Nat.min _ _;decide) rfl rfl]
   exact hF j hx
 | ok ob k=>
   rw [eO (show WE s 0=.ok (.agg [.int .i64 ob.form,.int .i64 ob.n,cN ob.vals,jK ob.frs]) k by unfold WE;rw [hx];rfl)]at hc
   simp +contextual +decide (maxSteps:=1000000) only [↓ wP,wQ,tf,Nat.reduceAdd,ne_eq,h0,h2,bF,hc,cZ,jU]
   refine jO rfl (vs:=[]) rfl ?_
   show K (.ret (.tuple []) (dE ⟨4,3,o⟩ (.tuple []) _))
   rw [eL (show Nat.min 2 (Nat.min 5 4)<4 by decide)]
   refine hK ob k hx 6 _ _ (by decide) ?_ ?_ ?_
   ·show Nat.min 3 (Nat.min 2 (Nat.min 5 4))<3;decide
   ·show (Tr.set _ 2 _).get 2=_
    rw [Tr.get_set_same];rfl
   ·intro id h1 h2
    show (((_:Tr AObj).set 2 _).get id)=_
    rw [Tr.get_set_ne _ _ h2,Tr.get_set_ne _ _ (by omega),Tr.get_set_ne _ _ (by omega),Tr.get_set_ne _ _ (by omega)]
theorem aBd {f:Fr} (h1:f.env.length<=9223372036854775807) (h2:f.vals.length<=9223372036854775807):sM (.agg (PE f))=some f:=by
 show (match cE (cN f.env),cE (cN f.vals) with
  | some e,some v=>some (Fr.mk f.node e v)
  | _,_=>none)=_
 rw [lK h1,lK h2]
theorem VZ {l:List Fr} (h:∀ f∈l,f.env.length<=9223372036854775807/\f.vals.length<=9223372036854775807) (hl:l.length<=9223372036854775807):nQ (jK l)=some l:=by
 unfold jK
 by_cases h0:l=[]
 ·subst h0;rfl
 ·rw [if_neg h0]
  show (if _ then _ else _)=_
  rw [if_pos (by simpa using hl),List.map_map]
  exact tH (g:=fun f=>.agg (PE f)) l fun f hf=>aBd (h f hf).1 (h f hf).2
theorem CP {l:List Nat} (hb:By l):∀ (k:Nat) (acc:List Fr) (at_:Nat),at_<=l.length+1000->(∀ f∈acc,f.env.length<=l.length/\f.vals.length<=l.length)->∀ x a,kH l k acc at_=.ok x a->∀ f∈x,f.env.length<=l.length/\f.vals.length<=l.length
 | 0,acc,at_,h,ha=>fun x a e=>by cases e;exact ha
 | k+1,acc,at_,h,ha=>by
   have h1:=QF hb h
   unfold kH
   cases hx:vA l at_ with
   | fail j=>exact fun x a e=>by cases e
   | ok v a=>
     rw [hx]at h1
     exact CP hb k (acc++[v]) a h1.1 fun f hf=>by
      rcases List.mem_append.1 hf with hf | hf
      ·exact ha f hf
      ·rw [List.mem_singleton]at hf;subst hf;exact h1.2 _ _ rfl
theorem aBe {l:List Nat} (hb:By l) {at_:Nat} (h:at_<=l.length+1000):∀ x a,uL l at_=.ok x a->∀ f∈x,f.env.length<=l.length/\f.vals.length<=l.length:=by
 have h1:=(iH hb h).1
 unfold uL
 cases hx:fN l at_ with
 | fail j=>exact fun x a e=>by cases e
 | ok n a=>
   rw [hx]at h1
   simp only
   split
   ·exact CP hb n [] a h1 fun f hf=>nomatch hf
   ·exact fun x a e=>by cases e
theorem aGe {s:List Nat} (hb:By s) (hl:s.length<1099511627776) {ob:Ob} {k:Nat} (h:wM s 0=.ok ob k):fG (wU ob)=some ob:=by
 have h1:=pY hb (show 0<=s.length+1000 by omega)
 unfold wM at h
 cases hx:lA s 0 with
 | fail j=>rw [hx]at h;cases h
 | ok c a1=>
   rw [hx]at h h1
   simp only at h
   have h1':a1<=s.length+1000:=h1.2
   have h2:=IH hb h1'
   cases hy:yR s a1 with
   | fail j=>rw [hy]at h;cases h
   | ok m a2=>
     rw [hy]at h h2
     simp only at h
     have h2':a2<=s.length+1000:=h2
     have h3:=sH hb h2'
     cases hz:iW s a2 with
     | fail j=>rw [hz]at h;cases h
     | ok v a3=>
       rw [hz]at h h3
       simp only at h
       have h3':a3<=s.length+1000:=h3.1
       have h4:=aGf hb h3'
       have h5:=aBe hb h3'
       cases hw:uL s a3 with
       | fail j=>rw [hw]at h;cases h
       | ok f a4=>
         rw [hw]at h h4 h5
         cases h
         have h6:=h3.2 _ _ rfl
         have h7:=h4.2 _ _ rfl
         show (match cE (cN v),nQ (jK f) with
          | some v,some f=>some (Ob.mk (c:Nat) m v f)
          | _,_=>none)=_
         rw [lK (by omega),VZ (fun g hg=>by have:=h5 _ _ rfl g hg;omega) (by omega)]
theorem aBf (s:List Nat) (hb:By s) (hl:s.length<1099511627776):Abs.Returns Try.prog 24 [.str s] (gD s):=by
 refine bQ (L:=L11) (elist_cons (cW WF) (elist_cons objectV_ok.ent bC)) aR (by kernel_rfl) Try.func24 Try.ntmps24 Try.results24 rfl rfl (aF fL aO) QD ?_
 simp +contextual +decide (maxSteps:=1000000) only [↓ wP,wQ,tf,Nat.reduceAdd,ne_eq,bF]
 refine (cG (first:=[]) (args:=[.func (.func 53) [] [.ptr 0 0 0,.ptr 2 0 0]]) (cap:=[])).1 (MJ _ _ _ _ _ _ aKr aKs (QE s hb hl _ (by simp [Tr.get_set]) (by simp [Tr.get_set]) _ (fun ob k hob n' low' o' hn hlo hg hsame=>?_) fun k hk=>?_))
 ·left
  refine ⟨n',low',o',rfl,hn,hlo,(hsame 3 (by decide) (by decide)).trans (by simp [Tr.get_set]),fun low''=>?_⟩
  have g0:o'.get 0=some (bE 0 [.str s]):=(hsame 0 (by decide) (by decide)).trans (by simp [Tr.get_set])
  have g1:o'.get 1=some (bE 0 [.int .i64 0,.int .i64 0,.nils,.nils]):=(hsame 1 (by decide) (by decide)).trans (by simp [Tr.get_set])
  have hdec:=aGe hb hl hob
  have c9:=aJc hdec
  have f0:=bK (show 0<n' by omega)
  have f1:=bK (show 1<n' by omega)
  have f2:=bK (show 2<n' by omega)
  have hg':o'.get 2=some (bE 0 [.int .i64 ob.form,.int .i64 ob.n,cN ob.vals,jK ob.frs]):=hg
  have hcell:fG (.agg [.int .i64 ob.form,.int .i64 ob.n,cN ob.vals,jK ob.frs])=some ob:=hdec
  have c9':=aJc hcell
  cases hok:gV ob with
  | false=>
    have e1:gD s=.tuple [.agg [.int .i64 0,.int .i64 0,.nils,.nils],.int .i64 4]:=by unfold gD;rw [hob];exact if_neg (by simp [hok])
    rw [hok,if_neg (by decide)]at c9'
    simp +contextual +decide (maxSteps:=1000000) only [↓ wP,wQ,tf,Nat.reduceAdd,ne_eq,g0,g1,hg',c9',f0,f1,f2,aL,Option.bind_some]
    exact e1.symm
  | true=>
    rw [hok,if_pos rfl]at c9'
    by_cases hs:fZ ob=s
    ·have e1:gD s=.tuple [.agg [.int .i64 ob.form,.int .i64 ob.n,cN ob.vals,jK ob.frs],.int .i64 0]:=by unfold gD;rw [hob];exact if_pos ⟨hok,hs⟩
     rw [hs]at c9'
     simp +contextual +decide (maxSteps:=1000000) only [↓ wP,wQ,tf,Nat.reduceAdd,ne_eq,g0,g1,hg',c9',f0,f1,f2,cZ,jU,xN,aL,Option.bind_some]
     exact e1.symm
    ·have e1:gD s=.tuple [.agg [.int .i64 0,.int .i64 0,.nils,.nils],.int .i64 4]:=by unfold gD;rw [hob];exact if_neg (by simp [hs])
     simp +contextual +decide (maxSteps:=1000000) only [↓ wP,wQ,tf,Nat.reduceAdd,ne_eq,g0,g1,hg',c9',f0,f1,f2,xN,hs,aL,Option.bind_some]
     exact e1.symm
 ·right
  refine ⟨k,rfl,fun n'' low'' o'' hn hsame=>?_,?_⟩
  ·have e1:gD s=.tuple [.agg [.int .i64 0,.int .i64 0,.nils,.nils],.int .i64 4]:=by unfold gD;rw [hk];rfl
   have g1:o''.get 1=some (bE 0 [.int .i64 0,.int .i64 0,.nils,.nils]):=(hsame 1 (by decide)).trans (by simp [Tr.get_set])
   have f1:=bK (show 1<n'' by omega)
   simp +contextual +decide (maxSteps:=1000000) only [↓ wP,wQ,tf,Nat.reduceAdd,ne_eq,g1,f1,aL,Option.bind_some]
   exact e1.symm
  ·have e1:gD s=.tuple [.agg [.int .i64 0,.int .i64 0,.nils,.nils],.int .i64 4]:=by unfold gD;rw [hk];rfl
   simp +contextual +decide (maxSteps:=1000000) only [↓ wP,wQ,tf,Nat.reduceAdd,ne_eq,bF,aL,Option.bind_some]
   exact e1.symm
end
end Go.Proofs.Ytajngkkihadgfaa
