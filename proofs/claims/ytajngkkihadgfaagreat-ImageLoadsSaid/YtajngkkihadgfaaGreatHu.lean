/-
  The program of images: attempts.
-/
import Derived.Test.YtajngkkihadgfaaGreatHr
namespace Go.Proofs.YtajngkkihadgfaaGreat
open Go.Abs Go Go.Abs.TryzF
noncomputable section
set_option maxRecDepth 10000
theorem aOh:abin Tryz.prog .eql 20 (.tmp 4) (.const .nilIface) .nili (MR .nilIface)=some (.bool true):=by kernel_rfl
theorem aHl {k:Nat}:abin Tryz.prog .eql 20 (.tmp 4) (.const .nilIface) (cH k) (MR .nilIface)=some (.bool false):=by kernel_rfl
theorem pZ {s:Sto} {v:AV} {e:Env} (h:s.n<=e.s.low) (hv:v.under s.n 100=true) (hr:e.r=.no):dL s v e=none:=by
 unfold dL
 rw [hr,hv,show Nat.ble s.n e.s.low=true by simpa using h]
 rfl
theorem aCy {O:bX} (c:Nat) (n low:Nat) (o:Tr AObj) (K:CRes->ARec->Prop) (ho:∀ a σ,O 92 a σ=none) (hK:K (.ret (.tuple []) none) .no):
 WcallR Tryz.prog O (.func (.func 92) [] [.ptr c 0 0]) [] ⟨n,low,o⟩ .no K:=by
 refine xM (first:=[]) (cap:=[.ptr c 0 0]) (args:=[]) (by simp only [HC];exact ho _ _) (by kernel_rfl) Tryz.func92 rfl ?_
 refine Wk.sound (H:=aL) ?_
 show Wk _ _ _ _ ⟨10,none,92,Tr.leaf.lay 0 [.ptr c 0 0],[],⟨n,n,o⟩,.no⟩ _
 simp +contextual +decide (maxSteps:=1000000) only [↓ wP,wQ,ne_eq,FN,FM,aOh]
 refine kO rfl (vs:=[]) rfl ?_
 show K (.ret (.tuple []) (dL ⟨n,low,o⟩ (.tuple []) _)) .no
 have:∀ e:Env,e.s=⟨n,n,o⟩->e.r=.no->dL ⟨n,low,o⟩ (.tuple []) e=none:=by
  intro e h1 h2
  unfold dL
  rw [h1,h2]
  simp [AV.under,HB,show n.ble n=true by simp]
 rw [this _ rfl rfl]
 exact hK
theorem VM {O:bX} (c k:Nat) (n low:Nat) (o:Tr AObj) (hc:c<n) (b:Bool) (hg:o.get c=some (aU 0 [.bool b])) (K:CRes->ARec->Prop)
 (hK:∀ n' low' o',n<=n'->low'<=c->low'<=low->o'.get c=some (aU 0 [.bool false])->(∀ id,id<n->id≠c->o'.get id=o.get id)->K (.ret (.tuple []) (some ⟨n',low',o'⟩)) (.recd (cH k))):
 WcallR Tryz.prog O (.func (.func 92) [] [.ptr c 0 0]) [] ⟨n,low,o⟩ (.pan (cH k)) K:=by
 refine xM (first:=[]) (cap:=[.ptr c 0 0]) (args:=[]) rfl (by kernel_rfl) Tryz.func92 rfl ?_
 refine Wk.sound (H:=aL) ?_
 show Wk _ _ _ _ ⟨10,none,92,Tr.leaf.lay 0 [.ptr c 0 0],[],⟨n,n,o⟩,.pan (cH k)⟩ _
 have f1:=bA hc
 simp +contextual +decide (maxSteps:=1000000) only [↓ wP,wQ,FN,FM,aHl]
 refine (aLy VN (d:=144) (v:=.agg [.int .i64 (k:Nat)]) (by simp +decide only [↓ aB,cH])).2 ?_
 simp +contextual +decide (maxSteps:=1000000) only [↓ wP,wQ,tf,Nat.reduceAdd,ne_eq,taV,Nat.beq_refl,cond_true,f1,cS,hg]
 refine kO rfl (vs:=[]) rfl ?_
 show K (.ret (.tuple []) (dL ⟨n,low,o⟩ (.tuple []) _)) _
 rw [eQ (show Nat.min c (Nat.min n n)<n from Nat.lt_of_le_of_lt (Nat.min_le_left _ _) hc)]
 exact hK (n+1) (Nat.min low (Nat.min c (Nat.min n n))) _ (Nat.le_succ n) (Nat.le_trans (Nat.min_le_right _ _) (Nat.min_le_left _ _)) (Nat.min_le_left _ _) (Tr.get_set_same _ _ _) fun id h1 h2=>by
  rw [Tr.get_set_ne _ _ h2,Tr.get_set_ne _ _ (Nat.ne_of_lt h1),Tr.get_set_ne _ _ (Nat.ne_of_lt h1)]
theorem BN {O:bX} (g:FuncId) (cap:List AV) (n low:Nat) (o:Tr AObj) (K:CRes->Prop) (ho:∀ a σ,O 40 a σ=none) (ho':∀ a σ,O 92 a σ=none)
 (hf:Wcall Tryz.prog O (.func (.func g) [] cap) [] ⟨n+1,n,o.set n (aU 0 [.bool false])⟩ fun res=>
   (∃ n' low' o',res=.ret (.tuple []) (some ⟨n',low',o'⟩)/\n+1<=n'/\low'<n/\o'.get n=some (aU 0 [.bool false])/\∀ low'',K (.ret (.bool true) (some ⟨n',low'',o'.set n (aU 0 [.bool true])⟩)))∨
   (∃ k,res=.pan (cH k) none/\(∀ n'' low'' o'',n+1<=n''->(∀ id,id<n->o''.get id=o.get id)->K (.ret (.bool false) (some ⟨n'',low'',o''⟩)))/\K (.ret (.bool false) none))):
 Wcall Tryz.prog O (.func (.func 40) [] []) [.func (.func g) [] cap] ⟨n,low,o⟩ K:=by
 refine kX (first:=[]) (cap:=[]) (args:=[.func (.func g) [] cap]) (ho _ _) (by kernel_rfl) Tryz.func40 rfl ?_
 refine Wk.sound (H:=aL) ?_
 show Wk _ _ _ _ ⟨6,none,40,Tr.leaf.lay 0 [.func (.func g) [] cap],[],⟨n,n,o⟩,.no⟩ _
 simp +contextual +decide (maxSteps:=1000000) only [↓ wP,wQ,tf,cS]
 refine (JE (g:=.func 92) (a:=[]) (b:=[.ptr n 0 0]) (by simp +decide only [↓ aB])).2 ?_
 simp +contextual +decide (maxSteps:=1000000) only [↓ wP,wQ,ne_eq,FL,cS]
 refine (cZ (first:=[]) (args:=[]) (cap:=cap)).1 (Wcall.mono hf ?_)
 rintro res (⟨n',low',o',rfl,hn,hl,hg,hK⟩ | ⟨k,rfl,hK,hK0⟩)
 ·have f1:=bA (Nat.lt_of_lt_of_le (Nat.lt_succ_self n) hn)
  simp +contextual +decide (maxSteps:=1000000) only [↓ wP,wQ,tf,Nat.reduceAdd,ne_eq,f1,hg]
  refine WF (ds:=[]) rfl rfl (aCy n n' (Nat.min n low') _ _ ho' ⟨rfl,?_⟩)
  refine kO rfl (vs:=[.bool true]) (by rw [Tryz.results40];simp +contextual +decide (maxSteps:=1000000) only [↓ wP,wQ,tf,ne_eq,f1,aF,Option.getD,Option.bind_some]) ?_
  show K (.ret (.bool true) (dL ⟨n,low,o⟩ (.bool true) _))
  rw [eQ (show Nat.min n low'<n from Nat.lt_of_le_of_lt (Nat.min_le_right _ _) hl)]
  exact hK _
 ·simp +contextual +decide (maxSteps:=1000000) only [↓ wP,wQ]
  refine PC (ds:=[]) rfl rfl (VM n k (n+1) n (o.set n (aU 0 [.bool false])) (Nat.lt_succ_self n) false (Tr.get_set_same _ _ _) _ fun n'' low'' o'' h1 h2 _ h3 h4=>?_)
  have f2:=bA (Nat.lt_of_lt_of_le (Nat.lt_succ_self n) h1)
  refine kO rfl (vs:=[.bool false]) (by rw [Tryz.results40];simp +contextual +decide (maxSteps:=1000000) only [↓ wP,wQ,tf,ne_eq,f2,h3,aF,Option.getD,Option.bind_some]) ?_
  show K (.ret (.bool false) (dL ⟨n,low,o⟩ (.bool false) _))
  rcases Nat.lt_or_ge low'' n with hlt | hge
  ·rw [eQ hlt]
   exact hK n'' _ o'' h1 fun id hid=>(h4 id (by omega) (by omega)).trans (Tr.get_set_ne _ _ (by omega))
  ·rw [pZ hge rfl rfl]
   exact hK0
end
end Go.Proofs.YtajngkkihadgfaaGreat
/-
 The program of images: Parse.
-/
namespace Go.Proofs.YtajngkkihadgfaaGreat
open Go.Abs Go Go.Abs.TryzF
noncomputable section
set_option maxRecDepth 10000
def gZ (s:List Nat):AV:=match nW s 0 with
 | .ok o _=>if fY o=true/\nG o=s then .tuple [pT o,.int .i64 0] else .tuple [pT pE,.int .i64 4]
 | .fail _=>.tuple [pT pE,.int .i64 4]
theorem SK {s:List Nat}:Und 0 (gZ s):=by
 unfold gZ
 split
 ·split<;>exact KQ aO
 ·exact KQ aO
abbrev L11:List iW:=[bU 42 (kL A1 KL),ent 9 yP]
theorem aLk (a:List AV) (σ:Sto):orcL L11 40 a σ=none:=(aT (by decide)).trans ((gP (by decide)).trans rfl)
theorem aLl (a:List AV) (σ:Sto):orcL L11 92 a σ=none:=(aT (by decide)).trans ((gP (by decide)).trans rfl)
theorem aLm (a:List AV) (σ:Sto):orcL L11 41 a σ=none:=(aT (by decide)).trans ((gP (by decide)).trans rfl)
theorem aKd {a:AV} {o:Ob} (h:dQ a=some o) (σ:Sto):orcL L11 9 [a] σ=some (.ret (if fY o=true then .tuple [.str (nG o),.int .i64 0] else .tuple [.str [],.int .i64 2]) none):=by
 rw [aT (by decide),ent_same];exact congrArg (Option.map _) (OR h)
theorem aLn {n low:Nat} {o:Tr AObj} {r fid g:Nat} {l:List Nat} {at_:Nat} (h:PrAt ⟨n,low,o⟩ r fid g l at_):orcL L11 42 [.ptr r 0 0] ⟨n,low,o⟩=some (cV KL r fid g l at_ ⟨n,low,o⟩):=cE fF h
def aHm (o:Ob):List AV:=[.int .i64 o.form,.int .i64 o.n,bO o.vals,iR o.frs]
theorem SL (s:List Nat) (hb:By s) (hl:s.length<1099511627776) (o:Tr AObj) (h0:o.get 0=some (aU 0 [.str s])) (h2:o.get 2=some (aU 0 [.int .i64 0,.int .i64 0,.nils,.nils])) (K:CRes->Prop)
 (hK:∀ ob k,nW s 0=.ok ob k->∀ n' low' o',4<=n'->low'<3->o'.get 2=some (aU 0 (aHm ob))->(∀ id,id<4->id≠2->o'.get id=o.get id)->K (.ret (.tuple []) (some ⟨n',low',o'⟩)))
 (hF:∀ k,nW s 0=.fail k->K (.pan (cH k) none)):Wcall Tryz.prog (orcL L11) (.func (.func 41) [] [.ptr 0 0 0,.ptr 2 0 0]) [] ⟨4,3,o⟩ K:=by
 refine kX (first:=[]) (cap:=[.ptr 0 0 0,.ptr 2 0 0]) (args:=[]) (aLm _ _) (by kernel_rfl) Tryz.func41 rfl ?_
 refine Wk.sound (H:=aL) ?_
 show Wk _ _ _ _ ⟨7,none,41,Tr.leaf.lay 0 [.ptr 0 0 0,.ptr 2 0 0],[],⟨4,4,o⟩,.no⟩ _
 have hp:PrAt ⟨6,4,(o.set 4 (aU 0 (s.map encB))).set 5 (iL 4 0 s 0)⟩ 5 4 0 s 0:=PrAt.mk' (by decide) (by decide) (Tr.get_set_same _ _ _) (by rw [Tr.get_set_ne _ _ (by decide),Tr.get_set_same]) (by decide) hb hl (Nat.zero_le _)
 have hc:orcL L11 42 [.ptr 5 0 0] ⟨6,4,(o.set 4 (aU 0 (s.map encB))).set 5 (aU 0 [.sl 4 0 0 s.length (.room 1),.int .i64 0])⟩=some (cV KL 5 4 0 s 0 ⟨6,4,(o.set 4 (aU 0 (s.map encB))).set 5 (aU 0 [.sl 4 0 0 s.length (.room 1),.int .i64 0])⟩):=aLn hp
 cases hx:nW s 0 with
 | fail j=>
   rw [bJ (show KL s 0=.fail j by unfold KL;rw [hx];rfl)]at hc
   simp +contextual +decide (maxSteps:=1000000) only [↓ wP,wQ,tf,Nat.reduceAdd,h0,cS,hc]
   refine LG rfl ?_
   show K (.pan (cH j) (dL ⟨4,3,o⟩ (cH j) _))
   rw [pZ (by show 4<=Nat.min _ _;decide) rfl rfl]
   exact hF j hx
 | ok ob k=>
   rw [bV (show KL s 0=.ok (.agg [.int .i64 ob.form,.int .i64 ob.n,bO ob.vals,iR ob.frs]) k by unfold KL;rw [hx];rfl)]at hc
   simp +contextual +decide (maxSteps:=1000000) only [↓ wP,wQ,tf,Nat.reduceAdd,ne_eq,h0,h2,cS,hc,aY,dG]
   refine kO rfl (vs:=[]) rfl ?_
   show K (.ret (.tuple []) (dL ⟨4,3,o⟩ (.tuple []) _))
   rw [eQ (show Nat.min 2 (Nat.min 5 4)<4 by decide)]
   refine hK ob k hx 6 _ _ (by decide) ?_ ?_ ?_
   ·show Nat.min 3 (Nat.min 2 (Nat.min 5 4))<3;decide
   ·show (Tr.set _ 2 _).get 2=_
    rw [Tr.get_set_same];rfl
   ·intro id h1 h2
    show (((_:Tr AObj).set 2 _).get id)=_
    rw [Tr.get_set_ne _ _ h2,Tr.get_set_ne _ _ (by omega),Tr.get_set_ne _ _ (by omega),Tr.get_set_ne _ _ (by omega)]
theorem aCz {f:Fr} (h1:f.env.length<=9223372036854775807) (h2:f.vals.length<=9223372036854775807):tZ (.agg (SS f))=some f:=by
 show (match bR (bO f.env),bR (bO f.vals) with
  | some e,some v=>some (Fr.mk f.node e v)
  | _,_=>none)=_
 rw [kV h1,kV h2]
theorem IV {l:List Fr} (h:∀ f∈l,f.env.length<=9223372036854775807/\f.vals.length<=9223372036854775807) (hl:l.length<=9223372036854775807):nO (iR l)=some l:=by
 unfold iR
 by_cases h0:l=[]
 ·subst h0;rfl
 ·rw [if_neg h0]
  show (if _ then _ else _)=_
  rw [if_pos (by simpa using hl),List.map_map]
  exact vC (g:=fun f=>.agg (SS f)) l fun f hf=>aCz (h f hf).1 (h f hf).2
theorem EM {l:List Nat} (hb:By l):∀ (k:Nat) (acc:List Fr) (at_:Nat),at_<=l.length+1000->(∀ f∈acc,f.env.length<=l.length/\f.vals.length<=l.length)->∀ x a,lE l k acc at_=.ok x a->∀ f∈x,f.env.length<=l.length/\f.vals.length<=l.length
 | 0,acc,at_,h,ha=>fun x a e=>by cases e;exact ha
 | k+1,acc,at_,h,ha=>by
   have h1:=SM hb h
   unfold lE
   cases hx:xH l at_ with
   | fail j=>exact fun x a e=>by cases e
   | ok v a=>
     rw [hx]at h1
     exact EM hb k (acc++[v]) a h1.1 fun f hf=>by
      rcases List.mem_append.1 hf with hf | hf
      ·exact ha f hf
      ·rw [List.mem_singleton]at hf;subst hf;exact h1.2 _ _ rfl
theorem OK {l:List Nat} (hb:By l) {at_:Nat} (h:at_<=l.length+1000):∀ x a,sI l at_=.ok x a->∀ f∈x,f.env.length<=l.length/\f.vals.length<=l.length:=by
 have h1:=(eD hb h).1
 unfold sI
 cases hx:cX l at_ with
 | fail j=>exact fun x a e=>by cases e
 | ok n a=>
   rw [hx]at h1
   simp only
   split
   ·exact EM hb n [] a h1 fun f hf=>nomatch hf
   ·exact fun x a e=>by cases e
theorem aHn {s:List Nat} (hb:By s) (hl:s.length<1099511627776) {ob:Ob} {k:Nat} (h:nW s 0=.ok ob k):dQ (pT ob)=some ob:=by
 have h1:=jY hb (show 0<=s.length+1000 by omega)
 unfold nW at h
 cases hx:jF s 0 with
 | fail j=>rw [hx]at h;cases h
 | ok c a1=>
   rw [hx]at h h1
   simp only at h
   have h1':a1<=s.length+1000:=h1.2
   have h2:=mU hb h1'
   cases hy:nM s a1 with
   | fail j=>rw [hy]at h;cases h
   | ok m a2=>
     rw [hy]at h h2
     simp only at h
     have h2':a2<=s.length+1000:=h2
     have h3:=pC hb h2'
     cases hz:jG s a2 with
     | fail j=>rw [hz]at h;cases h
     | ok v a3=>
       rw [hz]at h h3
       simp only at h
       have h3':a3<=s.length+1000:=h3.1
       have h4:=KK hb h3'
       have h5:=OK hb h3'
       cases hw:sI s a3 with
       | fail j=>rw [hw]at h;cases h
       | ok f a4=>
         rw [hw]at h h4 h5
         cases h
         have h6:=h3.2 _ _ rfl
         have h7:=h4.2 _ _ rfl
         show (match bR (bO v),nO (iR f) with
          | some v,some f=>some (Ob.mk (c:Nat) m v f)
          | _,_=>none)=_
         rw [kV (by omega),IV (fun g hg=>by have:=h5 _ _ rfl g hg;omega) (by omega)]
theorem aDa (s:List Nat) (hb:By s) (hl:s.length<1099511627776):Abs.Returns Tryz.prog 11 [.str s] (gZ s):=by
 refine aR (L:=L11) (elist_cons (bG IX) (elist_cons objectV_ok.ent aH)) aL (by kernel_rfl) Tryz.func11 Tryz.ntmps11 Tryz.results11 rfl rfl (aC cC aE) SK ?_
 simp +contextual +decide (maxSteps:=1000000) only [↓ wP,wQ,tf,Nat.reduceAdd,ne_eq]
 refine (cZ (first:=[]) (args:=[.func (.func 41) [] [.ptr 0 0 0,.ptr 2 0 0]]) (cap:=[])).1 (BN _ _ _ _ _ _ aLk aLl (SL s hb hl _ (by simp [Tr.get_set]) (by simp [Tr.get_set]) _ (fun ob k hob n' low' o' hn hlo hg hsame=>?_) fun k hk=>?_))
 ·left
  refine ⟨n',low',o',rfl,hn,hlo,(hsame 3 (by decide) (by decide)).trans (by simp [Tr.get_set]),fun low''=>?_⟩
  have g0:o'.get 0=some (aU 0 [.str s]):=(hsame 0 (by decide) (by decide)).trans (by simp [Tr.get_set])
  have g1:o'.get 1=some (aU 0 [.int .i64 0,.int .i64 0,.nils,.nils]):=(hsame 1 (by decide) (by decide)).trans (by simp [Tr.get_set])
  have hdec:=aHn hb hl hob
  have c9:=aKd hdec
  have f0:=bA (show 0<n' by omega)
  have f1:=bA (show 1<n' by omega)
  have f2:=bA (show 2<n' by omega)
  have hg':o'.get 2=some (aU 0 [.int .i64 ob.form,.int .i64 ob.n,bO ob.vals,iR ob.frs]):=hg
  have hcell:dQ (.agg [.int .i64 ob.form,.int .i64 ob.n,bO ob.vals,iR ob.frs])=some ob:=hdec
  have c9':=aKd hcell
  cases hok:fY ob with
  | false=>
    have e1:gZ s=.tuple [.agg [.int .i64 0,.int .i64 0,.nils,.nils],.int .i64 4]:=by unfold gZ;rw [hob];exact if_neg (by simp [hok])
    rw [hok,if_neg (by decide)]at c9'
    simp +contextual +decide (maxSteps:=1000000) only [↓ wP,wQ,tf,Nat.reduceAdd,ne_eq,g1,hg',c9',f1,f2,aF,Option.bind_some]
    exact e1.symm
  | true=>
    rw [hok,if_pos rfl]at c9'
    by_cases hs:nG ob=s
    ·have e1:gZ s=.tuple [.agg [.int .i64 ob.form,.int .i64 ob.n,bO ob.vals,iR ob.frs],.int .i64 0]:=by unfold gZ;rw [hob];exact if_pos ⟨hok,hs⟩
     rw [hs]at c9'
     simp +contextual +decide (maxSteps:=1000000) only [↓ wP,wQ,tf,Nat.reduceAdd,ne_eq,g0,g1,hg',c9',f0,f1,f2,aY,dG,fV,aF,Option.bind_some]
     exact e1.symm
    ·have e1:gZ s=.tuple [.agg [.int .i64 0,.int .i64 0,.nils,.nils],.int .i64 4]:=by unfold gZ;rw [hob];exact if_neg (by simp [hs])
     simp +contextual +decide (maxSteps:=1000000) only [↓ wP,wQ,tf,Nat.reduceAdd,ne_eq,g0,g1,hg',c9',f0,f1,f2,fV,hs,aF,Option.bind_some]
     exact e1.symm
 ·right
  refine ⟨k,rfl,fun n'' low'' o'' hn hsame=>?_,?_⟩
  ·have e1:gZ s=.tuple [.agg [.int .i64 0,.int .i64 0,.nils,.nils],.int .i64 4]:=by unfold gZ;rw [hk];rfl
   have g1:o''.get 1=some (aU 0 [.int .i64 0,.int .i64 0,.nils,.nils]):=(hsame 1 (by decide)).trans (by simp [Tr.get_set])
   have f1:=bA (show 1<n'' by omega)
   simp +contextual +decide (maxSteps:=1000000) only [↓ wP,wQ,tf,Nat.reduceAdd,ne_eq,g1,f1,aF,Option.bind_some]
   exact e1.symm
  ·have e1:gZ s=.tuple [.agg [.int .i64 0,.int .i64 0,.nils,.nils],.int .i64 4]:=by unfold gZ;rw [hk];rfl
   simp +contextual +decide (maxSteps:=1000000) only [↓ wP,wQ,tf,Nat.reduceAdd,ne_eq,cS,aF,Option.bind_some]
   exact e1.symm
end
end Go.Proofs.YtajngkkihadgfaaGreat
