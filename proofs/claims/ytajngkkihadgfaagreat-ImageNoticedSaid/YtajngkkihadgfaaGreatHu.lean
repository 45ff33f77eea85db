/-
  The program of images: attempts.
-/
import Derived.Test.YtajngkkihadgfaaGreatHr
set_option linter.unusedVariables false
set_option linter.unusedSimpArgs false
namespace Go.Proofs.YtajngkkihadgfaaGreat
open Go.Abs Go Go.Abs.TryzF
noncomputable section
set_option maxRecDepth 10000
theorem aPh:abin Tryz.prog .eql 20 (.tmp 4) (.const .nilIface) .nili (KV .nilIface)=some (.bool true):=by kernel_rfl
theorem aHq {k:Nat}:abin Tryz.prog .eql 20 (.tmp 4) (.const .nilIface) (cE k) (KV .nilIface)=some (.bool false):=by kernel_rfl
theorem mJ {s:Sto} {v:AV} {e:Env} (h:s.n<=e.s.low) (hv:v.under s.n 100=true) (hr:e.r=.no):cX s v e=none:=by
 unfold cX
 rw [hr,hv,show Nat.ble s.n e.s.low=true by simpa using h]
 rfl
theorem aCi {O:bW} (c:Nat) (n low:Nat) (o:Tr AObj) (K:CRes->ARec->Prop) (ho:∀ a σ,O 92 a σ=none) (hK:K (.ret (.tuple []) none) .no):
 WcallR Tryz.prog O (.func (.func 92) [] [.ptr c 0 0]) [] ⟨n,low,o⟩ .no K:=by
 refine vS (first:=[]) (cap:=[.ptr c 0 0]) (args:=[]) (by simp only [FP];exact ho _ _) (by kernel_rfl) Tryz.func92 rfl ?_
 refine Wk.sound (H:=aQ) ?_
 show Wk _ _ _ _ ⟨10,none,92,Tr.leaf.lay 0 [.ptr c 0 0],[],⟨n,n,o⟩,.no⟩ _
 simp +contextual +decide (maxSteps:=1000000) only [↓ wP,wQ,tf,Nat.reduceAdd,ne_eq,EB,EA,aPh]
 refine iU rfl (vs:=[]) rfl ?_
 show K (.ret (.tuple []) (cX ⟨n,low,o⟩ (.tuple []) _)) .no
 have:∀ e:Env,e.s=⟨n,n,o⟩->e.r=.no->cX ⟨n,low,o⟩ (.tuple []) e=none:=by
  intro e h1 h2
  unfold cX
  rw [h1,h2]
  simp [AV.under,FO,show n.ble n=true by simp]
 rw [this _ rfl rfl]
 exact hK
theorem UF {O:bW} (c k:Nat) (n low:Nat) (o:Tr AObj) (hc:c<n) (b:Bool) (hg:o.get c=some (aX 0 [.bool b])) (K:CRes->ARec->Prop)
 (hK:∀ n' low' o',n<=n'->low'<=c->low'<=low->o'.get c=some (aX 0 [.bool false])->(∀ id,id<n->id≠c->o'.get id=o.get id)->K (.ret (.tuple []) (some ⟨n',low',o'⟩)) (.recd (cE k))):
 WcallR Tryz.prog O (.func (.func 92) [] [.ptr c 0 0]) [] ⟨n,low,o⟩ (.pan (cE k)) K:=by
 refine vS (first:=[]) (cap:=[.ptr c 0 0]) (args:=[]) rfl (by kernel_rfl) Tryz.func92 rfl ?_
 refine Wk.sound (H:=aQ) ?_
 show Wk _ _ _ _ ⟨10,none,92,Tr.leaf.lay 0 [.ptr c 0 0],[],⟨n,n,o⟩,.pan (cE k)⟩ _
 have f1:=bK hc
 simp +contextual +decide (maxSteps:=1000000) only [↓ wP,wQ,tf,Nat.reduceAdd,ne_eq,EB,EA,aHq]
 refine (aMh UG (d:=144) (v:=.agg [.int .i64 (k:Nat)]) (by simp +decide only [↓ aB,aD,aC,cE])).2 ?_
 simp +contextual +decide (maxSteps:=1000000) only [↓ wP,wQ,tf,Nat.reduceAdd,ne_eq,taV,Nat.beq_refl,cond_true,f1,bC,hg]
 refine iU rfl (vs:=[]) rfl ?_
 show K (.ret (.tuple []) (cX ⟨n,low,o⟩ (.tuple []) _)) _
 rw [dV (show Nat.min c (Nat.min n n)<n from Nat.lt_of_le_of_lt (Nat.min_le_left _ _) hc)]
 exact hK (n+1) (Nat.min low (Nat.min c (Nat.min n n))) _ (Nat.le_succ n) (Nat.le_trans (Nat.min_le_right _ _) (Nat.min_le_left _ _)) (Nat.min_le_left _ _) (Tr.get_set_same _ _ _) fun id h1 h2=>by
  rw [Tr.get_set_ne _ _ h2,Tr.get_set_ne _ _ (Nat.ne_of_lt h1),Tr.get_set_ne _ _ (Nat.ne_of_lt h1)]
theorem AI {O:bW} (g:FuncId) (cap:List AV) (n low:Nat) (o:Tr AObj) (K:CRes->Prop) (ho:∀ a σ,O 40 a σ=none) (ho':∀ a σ,O 92 a σ=none)
 (hf:Wcall Tryz.prog O (.func (.func g) [] cap) [] ⟨n+1,n,o.set n (aX 0 [.bool false])⟩ fun res=>
   (∃ n' low' o',res=.ret (.tuple []) (some ⟨n',low',o'⟩)/\n+1<=n'/\low'<n/\o'.get n=some (aX 0 [.bool false])/\∀ low'',K (.ret (.bool true) (some ⟨n',low'',o'.set n (aX 0 [.bool true])⟩)))∨
   (∃ k,res=.pan (cE k) none/\(∀ n'' low'' o'',n+1<=n''->(∀ id,id<n->o''.get id=o.get id)->K (.ret (.bool false) (some ⟨n'',low'',o''⟩)))/\K (.ret (.bool false) none))):
 Wcall Tryz.prog O (.func (.func 40) [] []) [.func (.func g) [] cap] ⟨n,low,o⟩ K:=by
 refine iN (first:=[]) (cap:=[]) (args:=[.func (.func g) [] cap]) (ho _ _) (by kernel_rfl) Tryz.func40 rfl ?_
 refine Wk.sound (H:=aQ) ?_
 show Wk _ _ _ _ ⟨6,none,40,Tr.leaf.lay 0 [.func (.func g) [] cap],[],⟨n,n,o⟩,.no⟩ _
 simp +contextual +decide (maxSteps:=1000000) only [↓ wP,wQ,tf,Nat.reduceAdd,ne_eq,uE,rN,bC]
 refine (uE (g:=.func 92) (a:=[]) (b:=[.ptr n 0 0]) (by simp +decide only [↓ aB,aD,aC])).2 ?_
 simp +contextual +decide (maxSteps:=1000000) only [↓ wP,wQ,tf,Nat.reduceAdd,ne_eq,rN,bC,Array.toList_empty]
 refine (cP (first:=[]) (args:=[]) (cap:=cap)).1 (Wcall.mono hf ?_)
 rintro res (⟨n',low',o',rfl,hn,hl,hg,hK⟩ | ⟨k,rfl,hK,hK0⟩)
 ·have f1:=bK (Nat.lt_of_lt_of_le (Nat.lt_succ_self n) hn)
  simp +contextual +decide (maxSteps:=1000000) only [↓ wP,wQ,tf,Nat.reduceAdd,ne_eq,f1,hg]
  refine UZ (ds:=[]) rfl rfl (aCi n n' (Nat.min n low') _ _ ho' ⟨rfl,?_⟩)
  refine iU rfl (vs:=[.bool true]) (by rw [Tryz.results40];simp +contextual +decide (maxSteps:=1000000) only [↓ wP,wQ,tf,Nat.reduceAdd,ne_eq,f1,aL,Option.getD,List.toList_toArray,Option.bind_some]) ?_
  show K (.ret (.bool true) (cX ⟨n,low,o⟩ (.bool true) _))
  rw [dV (show Nat.min n low'<n from Nat.lt_of_le_of_lt (Nat.min_le_right _ _) hl)]
  exact hK _
 ·simp +contextual +decide (maxSteps:=1000000) only [↓ wP,wQ,tf,Nat.reduceAdd,ne_eq]
  refine NQ (ds:=[]) rfl rfl (UF n k (n+1) n (o.set n (aX 0 [.bool false])) (Nat.lt_succ_self n) false (Tr.get_set_same _ _ _) _ fun n'' low'' o'' h1 h2 _ h3 h4=>?_)
  have f2:=bK (Nat.lt_of_lt_of_le (Nat.lt_succ_self n) h1)
  refine iU rfl (vs:=[.bool false]) (by rw [Tryz.results40];simp +contextual +decide (maxSteps:=1000000) only [↓ wP,wQ,tf,Nat.reduceAdd,ne_eq,f2,h3,aL,Option.getD,List.toList_toArray,Option.bind_some]) ?_
  show K (.ret (.bool false) (cX ⟨n,low,o⟩ (.bool false) _))
  rcases Nat.lt_or_ge low'' n with hlt | hge
  ·rw [dV hlt]
   exact hK n'' _ o'' h1 fun id hid=>(h4 id (by omega) (by omega)).trans (Tr.get_set_ne _ _ (by omega))
  ·rw [mJ hge rfl rfl]
   exact hK0
end
end Go.Proofs.YtajngkkihadgfaaGreat
/-
 The program of images: Parse.
-/
namespace Go.Proofs.YtajngkkihadgfaaGreat
open Go.Abs Go Go.Abs.TryzF
noncomputable section
set_option maxRecDepth 10000
def fZ (s:List Nat):AV:=match nC s 0 with
 | .ok o _=>if iS o=true/\lJ o=s then .tuple [sS o,.int .i64 0] else .tuple [sS pS,.int .i64 4]
 | .fail _=>.tuple [sS pS,.int .i64 4]
theorem RC {s:List Nat}:Und 0 (fZ s):=by
 unfold fZ
 split
 ·split<;>exact US aU
 ·exact US aU
abbrev L11:List jK:=[cU 42 (jU A1 IY),ent 9 xC]
theorem aLv (a:List AV) (σ:Sto):orcL L11 40 a σ=none:=(bG (by decide)).trans ((eT (by decide)).trans rfl)
theorem aLw (a:List AV) (σ:Sto):orcL L11 92 a σ=none:=(bG (by decide)).trans ((eT (by decide)).trans rfl)
theorem aLx (a:List AV) (σ:Sto):orcL L11 41 a σ=none:=(bG (by decide)).trans ((eT (by decide)).trans rfl)
theorem aKg {a:AV} {o:Ob} (h:eD a=some o) (σ:Sto):orcL L11 9 [a] σ=some (.ret (if iS o=true then .tuple [.str (lJ o),.int .i64 0] else .tuple [.str [],.int .i64 2]) none):=by
 rw [bG (by decide),ent_same];exact congrArg (Option.map _) (NH h)
theorem aLy {n low:Nat} {o:Tr AObj} {r fid g:Nat} {l:List Nat} {at_:Nat} (h:PrAt ⟨n,low,o⟩ r fid g l at_):orcL L11 42 [.ptr r 0 0] ⟨n,low,o⟩=some (cM IY r fid g l at_ ⟨n,low,o⟩):=cA eM h
def aHr (o:Ob):List AV:=[.int .i64 o.form,.int .i64 o.n,bX o.vals,iR o.frs]
theorem RD (s:List Nat) (hb:By s) (hl:s.length<1099511627776) (o:Tr AObj) (h0:o.get 0=some (aX 0 [.str s])) (h2:o.get 2=some (aX 0 [.int .i64 0,.int .i64 0,.nils,.nils])) (K:CRes->Prop)
 (hK:∀ ob k,nC s 0=.ok ob k->∀ n' low' o',4<=n'->low'<3->o'.get 2=some (aX 0 (aHr ob))->(∀ id,id<4->id≠2->o'.get id=o.get id)->K (.ret (.tuple []) (some ⟨n',low',o'⟩)))
 (hF:∀ k,nC s 0=.fail k->K (.pan (cE k) none)):Wcall Tryz.prog (orcL L11) (.func (.func 41) [] [.ptr 0 0 0,.ptr 2 0 0]) [] ⟨4,3,o⟩ K:=by
 refine iN (first:=[]) (cap:=[.ptr 0 0 0,.ptr 2 0 0]) (args:=[]) (aLx _ _) (by kernel_rfl) Tryz.func41 rfl ?_
 refine Wk.sound (H:=aQ) ?_
 show Wk _ _ _ _ ⟨7,none,41,Tr.leaf.lay 0 [.ptr 0 0 0,.ptr 2 0 0],[],⟨4,4,o⟩,.no⟩ _
 have hp:PrAt ⟨6,4,(o.set 4 (aX 0 (s.map encB))).set 5 (gH 4 0 s 0)⟩ 5 4 0 s 0:=PrAt.mk' (by decide) (by decide) (Tr.get_set_same _ _ _) (by rw [Tr.get_set_ne _ _ (by decide),Tr.get_set_same]) (by decide) hb hl (Nat.zero_le _)
 have hc:orcL L11 42 [.ptr 5 0 0] ⟨6,4,(o.set 4 (aX 0 (s.map encB))).set 5 (aX 0 [.sl 4 0 0 s.length (.room 1),.int .i64 0])⟩=some (cM IY 5 4 0 s 0 ⟨6,4,(o.set 4 (aX 0 (s.map encB))).set 5 (aX 0 [.sl 4 0 0 s.length (.room 1),.int .i64 0])⟩):=aLy hp
 cases hx:nC s 0 with
 | fail j=>
   rw [bF (show IY s 0=.fail j by unfold IY;rw [hx];rfl)]at hc
   simp +contextual +decide (maxSteps:=1000000) only [↓ wP,wQ,tf,Nat.reduceAdd,ne_eq,h0,h2,bC,hc]
   refine JM rfl ?_
   show K (.pan (cE j) (cX ⟨4,3,o⟩ (cE j) _))
   rw [mJ (by show 4<=Nat.min _ _;decide) rfl rfl]
   exact hF j hx
 | ok ob k=>
   rw [bV (show IY s 0=.ok (.agg [.int .i64 ob.form,.int .i64 ob.n,bX ob.vals,iR ob.frs]) k by unfold IY;rw [hx];rfl)]at hc
   simp +contextual +decide (maxSteps:=1000000) only [↓ wP,wQ,tf,Nat.reduceAdd,ne_eq,h0,h2,bC,hc,bQ,fN]
   refine iU rfl (vs:=[]) rfl ?_
   show K (.ret (.tuple []) (cX ⟨4,3,o⟩ (.tuple []) _))
   rw [dV (show Nat.min 2 (Nat.min 5 4)<4 by decide)]
   refine hK ob k hx 6 _ _ (by decide) ?_ ?_ ?_
   ·show Nat.min 3 (Nat.min 2 (Nat.min 5 4))<3;decide
   ·show (Tr.set _ 2 _).get 2=_
    rw [Tr.get_set_same];rfl
   ·intro id h1 h2
    show (((_:Tr AObj).set 2 _).get id)=_
    rw [Tr.get_set_ne _ _ h2,Tr.get_set_ne _ _ (by omega),Tr.get_set_ne _ _ (by omega),Tr.get_set_ne _ _ (by omega)]
theorem aCj {f:Fr} (h1:f.env.length<=9223372036854775807) (h2:f.vals.length<=9223372036854775807):mL (.agg (PZ f))=some f:=by
 show (match cB (bX f.env),cB (bX f.vals) with
  | some e,some v=>some (Fr.mk f.node e v)
  | _,_=>none)=_
 rw [kB h1,kB h2]
theorem HK {l:List Fr} (h:∀ f∈l,f.env.length<=9223372036854775807/\f.vals.length<=9223372036854775807) (hl:l.length<=9223372036854775807):iT (iR l)=some l:=by
 unfold iR
 by_cases h0:l=[]
 ·subst h0;rfl
 ·rw [if_neg h0]
  show (if _ then _ else _)=_
  rw [if_pos (by simpa using hl),List.map_map]
  exact uD (g:=fun f=>.agg (PZ f)) l fun f hf=>aCj (h f hf).1 (h f hf).2
theorem DJ {l:List Nat} (hb:By l):∀ (k:Nat) (acc:List Fr) (at_:Nat),at_<=l.length+1000->(∀ f∈acc,f.env.length<=l.length/\f.vals.length<=l.length)->∀ x a,kM l k acc at_=.ok x a->∀ f∈x,f.env.length<=l.length/\f.vals.length<=l.length
 | 0,acc,at_,h,ha=>fun x a e=>by cases e;exact ha
 | k+1,acc,at_,h,ha=>by
   have h1:=RE hb h
   unfold kM
   cases hx:vQ l at_ with
   | fail j=>exact fun x a e=>by cases e
   | ok v a=>
     rw [hx]at h1
     exact DJ hb k (acc++[v]) a h1.1 fun f hf=>by
      rcases List.mem_append.1 hf with hf | hf
      ·exact ha f hf
      ·rw [List.mem_singleton]at hf;subst hf;exact h1.2 _ _ rfl
theorem NC {l:List Nat} (hb:By l) {at_:Nat} (h:at_<=l.length+1000):∀ x a,rI l at_=.ok x a->∀ f∈x,f.env.length<=l.length/\f.vals.length<=l.length:=by
 have h1:=(dO hb h).1
 unfold rI
 cases hx:cO l at_ with
 | fail j=>exact fun x a e=>by cases e
 | ok n a=>
   rw [hx]at h1
   simp only
   split
   ·exact DJ hb n [] a h1 fun f hf=>nomatch hf
   ·exact fun x a e=>by cases e
theorem aHs {s:List Nat} (hb:By s) (hl:s.length<1099511627776) {ob:Ob} {k:Nat} (h:nC s 0=.ok ob k):eD (sS ob)=some ob:=by
 have h1:=jG hb (show 0<=s.length+1000 by omega)
 unfold nC at h
 cases hx:gX s 0 with
 | fail j=>rw [hx]at h;cases h
 | ok c a1=>
   rw [hx]at h h1
   simp only at h
   have h1':a1<=s.length+1000:=h1.2
   have h2:=lW hb h1'
   cases hy:mT s a1 with
   | fail j=>rw [hy]at h;cases h
   | ok m a2=>
     rw [hy]at h h2
     simp only at h
     have h2':a2<=s.length+1000:=h2
     have h3:=nZ hb h2'
     cases hz:gY s a2 with
     | fail j=>rw [hz]at h;cases h
     | ok v a3=>
       rw [hz]at h h3
       simp only at h
       have h3':a3<=s.length+1000:=h3.1
       have h4:=IX hb h3'
       have h5:=NC hb h3'
       cases hw:rI s a3 with
       | fail j=>rw [hw]at h;cases h
       | ok f a4=>
         rw [hw]at h h4 h5
         cases h
         have h6:=h3.2 _ _ rfl
         have h7:=h4.2 _ _ rfl
         show (match cB (bX v),iT (iR f) with
          | some v,some f=>some (Ob.mk (c:Nat) m v f)
          | _,_=>none)=_
         rw [kB (by omega),HK (fun g hg=>by have:=h5 _ _ rfl g hg;omega) (by omega)]
theorem aCk (s:List Nat) (hb:By s) (hl:s.length<1099511627776):Abs.Returns Tryz.prog 11 [.str s] (fZ s):=by
 refine bJ (L:=L11) (elist_cons (bT HM) (elist_cons objectV_ok.ent aR)) aQ (by kernel_rfl) Tryz.func11 Tryz.ntmps11 Tryz.results11 rfl rfl (aE lY aH) RC ?_
 simp +contextual +decide (maxSteps:=1000000) only [↓ wP,wQ,tf,Nat.reduceAdd,ne_eq,bC]
 refine (cP (first:=[]) (args:=[.func (.func 41) [] [.ptr 0 0 0,.ptr 2 0 0]]) (cap:=[])).1 (AI _ _ _ _ _ _ aLv aLw (RD s hb hl _ (by simp [Tr.get_set]) (by simp [Tr.get_set]) _ (fun ob k hob n' low' o' hn hlo hg hsame=>?_) fun k hk=>?_))
 ·left
  refine ⟨n',low',o',rfl,hn,hlo,(hsame 3 (by decide) (by decide)).trans (by simp [Tr.get_set]),fun low''=>?_⟩
  have g0:o'.get 0=some (aX 0 [.str s]):=(hsame 0 (by decide) (by decide)).trans (by simp [Tr.get_set])
  have g1:o'.get 1=some (aX 0 [.int .i64 0,.int .i64 0,.nils,.nils]):=(hsame 1 (by decide) (by decide)).trans (by simp [Tr.get_set])
  have hdec:=aHs hb hl hob
  have c9:=aKg hdec
  have f0:=bK (show 0<n' by omega)
  have f1:=bK (show 1<n' by omega)
  have f2:=bK (show 2<n' by omega)
  have hg':o'.get 2=some (aX 0 [.int .i64 ob.form,.int .i64 ob.n,bX ob.vals,iR ob.frs]):=hg
  have hcell:eD (.agg [.int .i64 ob.form,.int .i64 ob.n,bX ob.vals,iR ob.frs])=some ob:=hdec
  have c9':=aKg hcell
  cases hok:iS ob with
  | false=>
    have e1:fZ s=.tuple [.agg [.int .i64 0,.int .i64 0,.nils,.nils],.int .i64 4]:=by unfold fZ;rw [hob];exact if_neg (by simp [hok])
    rw [hok,if_neg (by decide)]at c9'
    simp +contextual +decide (maxSteps:=1000000) only [↓ wP,wQ,tf,Nat.reduceAdd,ne_eq,g0,g1,hg',c9',f0,f1,f2,aL,Option.bind_some]
    exact e1.symm
  | true=>
    rw [hok,if_pos rfl]at c9'
    by_cases hs:lJ ob=s
    ·have e1:fZ s=.tuple [.agg [.int .i64 ob.form,.int .i64 ob.n,bX ob.vals,iR ob.frs],.int .i64 0]:=by unfold fZ;rw [hob];exact if_pos ⟨hok,hs⟩
     rw [hs]at c9'
     simp +contextual +decide (maxSteps:=1000000) only [↓ wP,wQ,tf,Nat.reduceAdd,ne_eq,g0,g1,hg',c9',f0,f1,f2,bQ,fN,kT,aL,Option.bind_some]
     exact e1.symm
    ·have e1:fZ s=.tuple [.agg [.int .i64 0,.int .i64 0,.nils,.nils],.int .i64 4]:=by unfold fZ;rw [hob];exact if_neg (by simp [hs])
     simp +contextual +decide (maxSteps:=1000000) only [↓ wP,wQ,tf,Nat.reduceAdd,ne_eq,g0,g1,hg',c9',f0,f1,f2,kT,hs,aL,Option.bind_some]
     exact e1.symm
 ·right
  refine ⟨k,rfl,fun n'' low'' o'' hn hsame=>?_,?_⟩
  ·have e1:fZ s=.tuple [.agg [.int .i64 0,.int .i64 0,.nils,.nils],.int .i64 4]:=by unfold fZ;rw [hk];rfl
   have g1:o''.get 1=some (aX 0 [.int .i64 0,.int .i64 0,.nils,.nils]):=(hsame 1 (by decide)).trans (by simp [Tr.get_set])
   have f1:=bK (show 1<n'' by omega)
   simp +contextual +decide (maxSteps:=1000000) only [↓ wP,wQ,tf,Nat.reduceAdd,ne_eq,g1,f1,aL,Option.bind_some]
   exact e1.symm
  ·have e1:fZ s=.tuple [.agg [.int .i64 0,.int .i64 0,.nils,.nils],.int .i64 4]:=by unfold fZ;rw [hk];rfl
   simp +contextual +decide (maxSteps:=1000000) only [↓ wP,wQ,tf,Nat.reduceAdd,ne_eq,bC,aL,Option.bind_some]
   exact e1.symm
end
end Go.Proofs.YtajngkkihadgfaaGreat
