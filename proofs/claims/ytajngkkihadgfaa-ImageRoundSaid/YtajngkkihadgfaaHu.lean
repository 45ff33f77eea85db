/-
  The program of images: attempts.
-/
import Derived.Test.YtajngkkihadgfaaHr
set_option linter.unusedVariables false
set_option linter.unusedSimpArgs false
namespace Go.Proofs.Ytajngkkihadgfaa
open Go.Abs Go Go.Abs.TryF
noncomputable section
set_option maxRecDepth 10000
theorem aNx:abin Try.prog .eql 20 (.tmp 4) (.const .nilIface) .nili (KG .nilIface)=some (.bool true):=by kernel_rfl
theorem aGh {k:Nat}:abin Try.prog .eql 20 (.tmp 4) (.const .nilIface) (cC k) (KG .nilIface)=some (.bool false):=by kernel_rfl
theorem oV {s:Sto} {v:AV} {e:Env} (h:s.n<=e.s.low) (hv:v.under s.n 100=true) (hr:e.r=.no):cY s v e=none:=by
 unfold cY
 rw [hr,hv,show Nat.ble s.n e.s.low=true by simpa using h]
 rfl
theorem aBe {O:bW} (c:Nat) (n low:Nat) (o:Tr AObj) (K:CRes->ARec->Prop) (ho:∀ a σ,O 86 a σ=none) (hK:K (.ret (.tuple []) none) .no):
 WcallR Try.prog O (.func (.func 86) [] [.ptr c 0 0]) [] ⟨n,low,o⟩ .no K:=by
 refine vM (first:=[]) (cap:=[.ptr c 0 0]) (args:=[]) (by simp only [FC];exact ho _ _) (by kernel_rfl) Try.func86 rfl ?_
 refine Wk.sound (H:=aP) ?_
 show Wk _ _ _ _ ⟨10,none,86,Tr.leaf.lay 0 [.ptr c 0 0],[],⟨n,n,o⟩,.no⟩ _
 simp +contextual +decide (maxSteps:=1000000) only [↓ wP,wQ,tf,Nat.reduceAdd,ne_eq,DP,DO,aNx]
 refine jR rfl (vs:=[]) rfl ?_
 show K (.ret (.tuple []) (cY ⟨n,low,o⟩ (.tuple []) _)) .no
 have:∀ e:Env,e.s=⟨n,n,o⟩->e.r=.no->cY ⟨n,low,o⟩ (.tuple []) e=none:=by
  intro e h1 h2
  unfold cY
  rw [h1,h2]
  simp [AV.under,FB,show n.ble n=true by simp]
 rw [this _ rfl rfl]
 exact hK
theorem TF {O:bW} (c k:Nat) (n low:Nat) (o:Tr AObj) (hc:c<n) (b:Bool) (hg:o.get c=some (aU 0 [.bool b])) (K:CRes->ARec->Prop)
 (hK:∀ n' low' o',n<=n'->low'<=c->low'<=low->o'.get c=some (aU 0 [.bool false])->(∀ id,id<n->id≠c->o'.get id=o.get id)->K (.ret (.tuple []) (some ⟨n',low',o'⟩)) (.recd (cC k))):
 WcallR Try.prog O (.func (.func 86) [] [.ptr c 0 0]) [] ⟨n,low,o⟩ (.pan (cC k)) K:=by
 refine vM (first:=[]) (cap:=[.ptr c 0 0]) (args:=[]) rfl (by kernel_rfl) Try.func86 rfl ?_
 refine Wk.sound (H:=aP) ?_
 show Wk _ _ _ _ ⟨10,none,86,Tr.leaf.lay 0 [.ptr c 0 0],[],⟨n,n,o⟩,.pan (cC k)⟩ _
 have f1:=bH hc
 simp +contextual +decide (maxSteps:=1000000) only [↓ wP,wQ,tf,Nat.reduceAdd,ne_eq,DP,DO,aGh]
 refine (aKz TG (d:=145) (v:=.agg [.int .i64 (k:Nat)]) (by simp +decide only [↓ aB,aD,aC,cC])).2 ?_
 simp +contextual +decide (maxSteps:=1000000) only [↓ wP,wQ,tf,Nat.reduceAdd,ne_eq,taV,Nat.beq_refl,cond_true,f1,bB,hg]
 refine jR rfl (vs:=[]) rfl ?_
 show K (.ret (.tuple []) (cY ⟨n,low,o⟩ (.tuple []) _)) _
 rw [dW (show Nat.min c (Nat.min n n)<n from Nat.lt_of_le_of_lt (Nat.min_le_left _ _) hc)]
 exact hK (n+1) (Nat.min low (Nat.min c (Nat.min n n))) _ (Nat.le_succ n) (Nat.le_trans (Nat.min_le_right _ _) (Nat.min_le_left _ _)) (Nat.min_le_left _ _) (Tr.get_set_same _ _ _) fun id h1 h2=>by
  rw [Tr.get_set_ne _ _ h2,Tr.get_set_ne _ _ (Nat.ne_of_lt h1),Tr.get_set_ne _ _ (Nat.ne_of_lt h1)]
theorem AA {O:bW} (g:FuncId) (cap:List AV) (n low:Nat) (o:Tr AObj) (K:CRes->Prop) (ho:∀ a σ,O 45 a σ=none) (ho':∀ a σ,O 86 a σ=none)
 (hf:Wcall Try.prog O (.func (.func g) [] cap) [] ⟨n+1,n,o.set n (aU 0 [.bool false])⟩ fun res=>
   (∃ n' low' o',res=.ret (.tuple []) (some ⟨n',low',o'⟩)/\n+1<=n'/\low'<n/\o'.get n=some (aU 0 [.bool false])/\∀ low'',K (.ret (.bool true) (some ⟨n',low'',o'.set n (aU 0 [.bool true])⟩)))∨
   (∃ k,res=.pan (cC k) none/\(∀ n'' low'' o'',n+1<=n''->(∀ id,id<n->o''.get id=o.get id)->K (.ret (.bool false) (some ⟨n'',low'',o''⟩)))/\K (.ret (.bool false) none))):
 Wcall Try.prog O (.func (.func 45) [] []) [.func (.func g) [] cap] ⟨n,low,o⟩ K:=by
 refine jZ (first:=[]) (cap:=[]) (args:=[.func (.func g) [] cap]) (ho _ _) (by kernel_rfl) Try.func45 rfl ?_
 refine Wk.sound (H:=aP) ?_
 show Wk _ _ _ _ ⟨6,none,45,Tr.leaf.lay 0 [.func (.func g) [] cap],[],⟨n,n,o⟩,.no⟩ _
 simp +contextual +decide (maxSteps:=1000000) only [↓ wP,wQ,tf,Nat.reduceAdd,ne_eq,uA,rJ,bB]
 refine (uA (g:=.func 86) (a:=[]) (b:=[.ptr n 0 0]) (by simp +decide only [↓ aB,aD,aC])).2 ?_
 simp +contextual +decide (maxSteps:=1000000) only [↓ wP,wQ,tf,Nat.reduceAdd,ne_eq,rJ,bB,Array.toList_empty]
 refine (cO (first:=[]) (args:=[]) (cap:=cap)).1 (Wcall.mono hf ?_)
 rintro res (⟨n',low',o',rfl,hn,hl,hg,hK⟩ | ⟨k,rfl,hK,hK0⟩)
 ·have f1:=bH (Nat.lt_of_lt_of_le (Nat.lt_succ_self n) hn)
  simp +contextual +decide (maxSteps:=1000000) only [↓ wP,wQ,tf,Nat.reduceAdd,ne_eq,f1,hg]
  refine TY (ds:=[]) rfl rfl (aBe n n' (Nat.min n low') _ _ ho' ⟨rfl,?_⟩)
  refine jR rfl (vs:=[.bool true]) (by rw [Try.results45];simp +contextual +decide (maxSteps:=1000000) only [↓ wP,wQ,tf,Nat.reduceAdd,ne_eq,f1,aJ,Option.getD,List.toList_toArray,Option.bind_some]) ?_
  show K (.ret (.bool true) (cY ⟨n,low,o⟩ (.bool true) _))
  rw [dW (show Nat.min n low'<n from Nat.lt_of_le_of_lt (Nat.min_le_right _ _) hl)]
  exact hK _
 ·simp +contextual +decide (maxSteps:=1000000) only [↓ wP,wQ,tf,Nat.reduceAdd,ne_eq]
  refine MS (ds:=[]) rfl rfl (TF n k (n+1) n (o.set n (aU 0 [.bool false])) (Nat.lt_succ_self n) false (Tr.get_set_same _ _ _) _ fun n'' low'' o'' h1 h2 _ h3 h4=>?_)
  have f2:=bH (Nat.lt_of_lt_of_le (Nat.lt_succ_self n) h1)
  refine jR rfl (vs:=[.bool false]) (by rw [Try.results45];simp +contextual +decide (maxSteps:=1000000) only [↓ wP,wQ,tf,Nat.reduceAdd,ne_eq,f2,h3,aJ,Option.getD,List.toList_toArray,Option.bind_some]) ?_
  show K (.ret (.bool false) (cY ⟨n,low,o⟩ (.bool false) _))
  rcases Nat.lt_or_ge low'' n with hlt | hge
  ·rw [dW hlt]
   exact hK n'' _ o'' h1 fun id hid=>(h4 id (by omega) (by omega)).trans (Tr.get_set_ne _ _ (by omega))
  ·rw [oV hge rfl rfl]
   exact hK0
end
end Go.Proofs.Ytajngkkihadgfaa
/-
 The program of images: Parse.
-/
namespace Go.Proofs.Ytajngkkihadgfaa
open Go.Abs Go Go.Abs.TryF
noncomputable section
set_option maxRecDepth 10000
def fW (s:List Nat):AV:=match mU s 0 with
 | .ok o _=>if gR o=true/\kC o=s then .tuple [tY o,.int .i64 0] else .tuple [tY sW,.int .i64 4]
 | .fail _=>.tuple [tY sW,.int .i64 4]
theorem QE {s:List Nat}:Und 0 (fW s):=by
 unfold fW
 split
 ·split<;>exact TR aV
 ·exact TR aV
abbrev L11:List jE:=[cT 54 (jN A1 IJ),ent 19 qH]
theorem aKn (a:List AV) (σ:Sto):orcL L11 45 a σ=none:=(bF (by decide)).trans ((eU (by decide)).trans rfl)
theorem aKo (a:List AV) (σ:Sto):orcL L11 86 a σ=none:=(bF (by decide)).trans ((eU (by decide)).trans rfl)
theorem aKp (a:List AV) (σ:Sto):orcL L11 53 a σ=none:=(bF (by decide)).trans ((eU (by decide)).trans rfl)
theorem aJa {a:AV} {o:Ob} (h:dZ a=some o) (σ:Sto):orcL L11 19 [a] σ=some (.ret (if gR o=true then .tuple [.str (kC o),.int .i64 0] else .tuple [.str [],.int .i64 2]) none):=by
 rw [bF (by decide),ent_same];exact congrArg (Option.map _) (AB h)
theorem aKq {n low:Nat} {o:Tr AObj} {r fid g:Nat} {l:List Nat} {at_:Nat} (h:PrAt ⟨n,low,o⟩ r fid g l at_):orcL L11 54 [.ptr r 0 0] ⟨n,low,o⟩=some (cL IJ r fid g l at_ ⟨n,low,o⟩):=bZ eO h
def aGi (o:Ob):List AV:=[.int .i64 o.form,.int .i64 o.n,bV o.vals,gW o.frs]
theorem QF (s:List Nat) (hb:By s) (hl:s.length<1099511627776) (o:Tr AObj) (h0:o.get 0=some (aU 0 [.str s])) (h2:o.get 2=some (aU 0 [.int .i64 0,.int .i64 0,.nils,.nils])) (K:CRes->Prop)
 (hK:∀ ob k,mU s 0=.ok ob k->∀ n' low' o',4<=n'->low'<3->o'.get 2=some (aU 0 (aGi ob))->(∀ id,id<4->id≠2->o'.get id=o.get id)->K (.ret (.tuple []) (some ⟨n',low',o'⟩)))
 (hF:∀ k,mU s 0=.fail k->K (.pan (cC k) none)):Wcall Try.prog (orcL L11) (.func (.func 53) [] [.ptr 0 0 0,.ptr 2 0 0]) [] ⟨4,3,o⟩ K:=by
 refine jZ (first:=[]) (cap:=[.ptr 0 0 0,.ptr 2 0 0]) (args:=[]) (aKp _ _) (by kernel_rfl) Try.func53 rfl ?_
 refine Wk.sound (H:=aP) ?_
 show Wk _ _ _ _ ⟨7,none,53,Tr.leaf.lay 0 [.ptr 0 0 0,.ptr 2 0 0],[],⟨4,4,o⟩,.no⟩ _
 have hp:PrAt ⟨6,4,(o.set 4 (aU 0 (s.map encB))).set 5 (gF 4 0 s 0)⟩ 5 4 0 s 0:=PrAt.mk' (by decide) (by decide) (Tr.get_set_same _ _ _) (by rw [Tr.get_set_ne _ _ (by decide),Tr.get_set_same]) (by decide) hb hl (Nat.zero_le _)
 have hc:orcL L11 54 [.ptr 5 0 0] ⟨6,4,(o.set 4 (aU 0 (s.map encB))).set 5 (aU 0 [.sl 4 0 0 s.length (.room 1),.int .i64 0])⟩=some (cL IJ 5 4 0 s 0 ⟨6,4,(o.set 4 (aU 0 (s.map encB))).set 5 (aU 0 [.sl 4 0 0 s.length (.room 1),.int .i64 0])⟩):=aKq hp
 cases hx:mU s 0 with
 | fail j=>
   rw [bE (show IJ s 0=.fail j by unfold IJ;rw [hx];rfl)]at hc
   simp +contextual +decide (maxSteps:=1000000) only [↓ wP,wQ,tf,Nat.reduceAdd,ne_eq,h0,h2,bB,hc]
   refine IX rfl ?_
   show K (.pan (cC j) (cY ⟨4,3,o⟩ (cC j) _))
   rw [oV (by show 4<=Nat.min _ _;decide) rfl rfl]
   exact hF j hx
 | ok ob k=>
   rw [bU (show IJ s 0=.ok (.agg [.int .i64 ob.form,.int .i64 ob.n,bV ob.vals,gW ob.frs]) k by unfold IJ;rw [hx];rfl)]at hc
   simp +contextual +decide (maxSteps:=1000000) only [↓ wP,wQ,tf,Nat.reduceAdd,ne_eq,h0,h2,bB,hc,bQ,gK]
   refine jR rfl (vs:=[]) rfl ?_
   show K (.ret (.tuple []) (cY ⟨4,3,o⟩ (.tuple []) _))
   rw [dW (show Nat.min 2 (Nat.min 5 4)<4 by decide)]
   refine hK ob k hx 6 _ _ (by decide) ?_ ?_ ?_
   ·show Nat.min 3 (Nat.min 2 (Nat.min 5 4))<3;decide
   ·show (Tr.set _ 2 _).get 2=_
    rw [Tr.get_set_same];rfl
   ·intro id h1 h2
    show (((_:Tr AObj).set 2 _).get id)=_
    rw [Tr.get_set_ne _ _ h2,Tr.get_set_ne _ _ (by omega),Tr.get_set_ne _ _ (by omega),Tr.get_set_ne _ _ (by omega)]
theorem aBf {f:Fr} (h1:f.env.length<=9223372036854775807) (h2:f.vals.length<=9223372036854775807):mC (.agg (PB f))=some f:=by
 show (match cA (bV f.env),cA (bV f.vals) with
  | some e,some v=>some (Fr.mk f.node e v)
  | _,_=>none)=_
 rw [jV h1,jV h2]
theorem GW {l:List Fr} (h:∀ f∈l,f.env.length<=9223372036854775807/\f.vals.length<=9223372036854775807) (hl:l.length<=9223372036854775807):iO (gW l)=some l:=by
 unfold gW
 by_cases h0:l=[]
 ·subst h0;rfl
 ·rw [if_neg h0]
  show (if _ then _ else _)=_
  rw [if_pos (by simpa using hl),List.map_map]
  exact tZ (g:=fun f=>.agg (PB f)) l fun f hf=>aBf (h f hf).1 (h f hf).2
theorem CY {l:List Nat} (hb:By l):∀ (k:Nat) (acc:List Fr) (at_:Nat),at_<=l.length+1000->(∀ f∈acc,f.env.length<=l.length/\f.vals.length<=l.length)->∀ x a,kI l k acc at_=.ok x a->∀ f∈x,f.env.length<=l.length/\f.vals.length<=l.length
 | 0,acc,at_,h,ha=>fun x a e=>by cases e;exact ha
 | k+1,acc,at_,h,ha=>by
   have h1:=QG hb h
   unfold kI
   cases hx:vJ l at_ with
   | fail j=>exact fun x a e=>by cases e
   | ok v a=>
     rw [hx]at h1
     exact CY hb k (acc++[v]) a h1.1 fun f hf=>by
      rcases List.mem_append.1 hf with hf | hf
      ·exact ha f hf
      ·rw [List.mem_singleton]at hf;subst hf;exact h1.2 _ _ rfl
theorem ME {l:List Nat} (hb:By l) {at_:Nat} (h:at_<=l.length+1000):∀ x a,rF l at_=.ok x a->∀ f∈x,f.env.length<=l.length/\f.vals.length<=l.length:=by
 have h1:=(dL hb h).1
 unfold rF
 cases hx:cN l at_ with
 | fail j=>exact fun x a e=>by cases e
 | ok n a=>
   rw [hx]at h1
   simp only
   split
   ·exact CY hb n [] a h1 fun f hf=>nomatch hf
   ·exact fun x a e=>by cases e
theorem aGj {s:List Nat} (hb:By s) (hl:s.length<1099511627776) {ob:Ob} {k:Nat} (h:mU s 0=.ok ob k):dZ (tY ob)=some ob:=by
 have h1:=jA hb (show 0<=s.length+1000 by omega)
 unfold mU at h
 cases hx:gT s 0 with
 | fail j=>rw [hx]at h;cases h
 | ok c a1=>
   rw [hx]at h h1
   simp only at h
   have h1':a1<=s.length+1000:=h1.2
   have h2:=lP hb h1'
   cases hy:mL s a1 with
   | fail j=>rw [hy]at h;cases h
   | ok m a2=>
     rw [hy]at h h2
     simp only at h
     have h2':a2<=s.length+1000:=h2
     have h3:=nU hb h2'
     cases hz:gU s a2 with
     | fail j=>rw [hz]at h;cases h
     | ok v a3=>
       rw [hz]at h h3
       simp only at h
       have h3':a3<=s.length+1000:=h3.1
       have h4:=II hb h3'
       have h5:=ME hb h3'
       cases hw:rF s a3 with
       | fail j=>rw [hw]at h;cases h
       | ok f a4=>
         rw [hw]at h h4 h5
         cases h
         have h6:=h3.2 _ _ rfl
         have h7:=h4.2 _ _ rfl
         show (match cA (bV v),iO (gW f) with
          | some v,some f=>some (Ob.mk (c:Nat) m v f)
          | _,_=>none)=_
         rw [jV (by omega),GW (fun g hg=>by have:=h5 _ _ rfl g hg;omega) (by omega)]
theorem MF (s:List Nat) (hb:By s) (hl:s.length<1099511627776):Abs.Returns Try.prog 24 [.str s] (fW s):=by
 refine bK (L:=L11) (elist_cons (bT GY) (elist_cons objectV_ok.ent aQ)) aP (by kernel_rfl) Try.func24 Try.ntmps24 Try.results24 rfl rfl (aE lS aI) QE ?_
 simp +contextual +decide (maxSteps:=1000000) only [↓ wP,wQ,tf,Nat.reduceAdd,ne_eq,bB]
 refine (cO (first:=[]) (args:=[.func (.func 53) [] [.ptr 0 0 0,.ptr 2 0 0]]) (cap:=[])).1 (AA _ _ _ _ _ _ aKn aKo (QF s hb hl _ (by simp [Tr.get_set]) (by simp [Tr.get_set]) _ (fun ob k hob n' low' o' hn hlo hg hsame=>?_) fun k hk=>?_))
 ·left
  refine ⟨n',low',o',rfl,hn,hlo,(hsame 3 (by decide) (by decide)).trans (by simp [Tr.get_set]),fun low''=>?_⟩
  have g0:o'.get 0=some (aU 0 [.str s]):=(hsame 0 (by decide) (by decide)).trans (by simp [Tr.get_set])
  have g1:o'.get 1=some (aU 0 [.int .i64 0,.int .i64 0,.nils,.nils]):=(hsame 1 (by decide) (by decide)).trans (by simp [Tr.get_set])
  have hdec:=aGj hb hl hob
  have c9:=aJa hdec
  have f0:=bH (show 0<n' by omega)
  have f1:=bH (show 1<n' by omega)
  have f2:=bH (show 2<n' by omega)
  have hg':o'.get 2=some (aU 0 [.int .i64 ob.form,.int .i64 ob.n,bV ob.vals,gW ob.frs]):=hg
  have hcell:dZ (.agg [.int .i64 ob.form,.int .i64 ob.n,bV ob.vals,gW ob.frs])=some ob:=hdec
  have c9':=aJa hcell
  cases hok:gR ob with
  | false=>
    have e1:fW s=.tuple [.agg [.int .i64 0,.int .i64 0,.nils,.nils],.int .i64 4]:=by unfold fW;rw [hob];exact if_neg (by simp [hok])
    rw [hok,if_neg (by decide)]at c9'
    simp +contextual +decide (maxSteps:=1000000) only [↓ wP,wQ,tf,Nat.reduceAdd,ne_eq,g0,g1,hg',c9',f0,f1,f2,aJ,Option.bind_some]
    exact e1.symm
  | true=>
    rw [hok,if_pos rfl]at c9'
    by_cases hs:kC ob=s
    ·have e1:fW s=.tuple [.agg [.int .i64 ob.form,.int .i64 ob.n,bV ob.vals,gW ob.frs],.int .i64 0]:=by unfold fW;rw [hob];exact if_pos ⟨hok,hs⟩
     rw [hs]at c9'
     simp +contextual +decide (maxSteps:=1000000) only [↓ wP,wQ,tf,Nat.reduceAdd,ne_eq,g0,g1,hg',c9',f0,f1,f2,bQ,gK,kM,aJ,Option.bind_some]
     exact e1.symm
    ·have e1:fW s=.tuple [.agg [.int .i64 0,.int .i64 0,.nils,.nils],.int .i64 4]:=by unfold fW;rw [hob];exact if_neg (by simp [hs])
     simp +contextual +decide (maxSteps:=1000000) only [↓ wP,wQ,tf,Nat.reduceAdd,ne_eq,g0,g1,hg',c9',f0,f1,f2,kM,hs,aJ,Option.bind_some]
     exact e1.symm
 ·right
  refine ⟨k,rfl,fun n'' low'' o'' hn hsame=>?_,?_⟩
  ·have e1:fW s=.tuple [.agg [.int .i64 0,.int .i64 0,.nils,.nils],.int .i64 4]:=by unfold fW;rw [hk];rfl
   have g1:o''.get 1=some (aU 0 [.int .i64 0,.int .i64 0,.nils,.nils]):=(hsame 1 (by decide)).trans (by simp [Tr.get_set])
   have f1:=bH (show 1<n'' by omega)
   simp +contextual +decide (maxSteps:=1000000) only [↓ wP,wQ,tf,Nat.reduceAdd,ne_eq,g1,f1,aJ,Option.bind_some]
   exact e1.symm
  ·have e1:fW s=.tuple [.agg [.int .i64 0,.int .i64 0,.nils,.nils],.int .i64 4]:=by unfold fW;rw [hk];rfl
   simp +contextual +decide (maxSteps:=1000000) only [↓ wP,wQ,tf,Nat.reduceAdd,ne_eq,bB,aJ,Option.bind_some]
   exact e1.symm
end
end Go.Proofs.Ytajngkkihadgfaa
