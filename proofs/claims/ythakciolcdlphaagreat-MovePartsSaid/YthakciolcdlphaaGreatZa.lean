/-
  What is reached, in plain words: depth first, and as a set.
-/
import Derived.Test.YthakciolcdlphaaGreatPa
set_option linter.unusedVariables false
set_option linter.unusedSimpArgs false
namespace Go.Abs
inductive Run (g:Nat->List Nat):List Bool->List Nat->List Nat->Prop
 | nil (M:List Bool):Run g M [] []
 | skip {M:List Bool} {n:Nat} {t o:List Nat}:M[n]?=some true->Run g M t o->Run g M (n::t) o
 | go {M:List Bool} {n:Nat} {t o:List Nat}:M[n]?=some false->Run g (M.set n true) (g n++t) o->Run g M (n::t) (n::o)
inductive Way (g:Nat->List Nat):Nat->Nat->Prop
 | refl (n:Nat):Way g n n
 | step {a b c:Nat}:b∈g a->Way g b c->Way g a c
variable {g:Nat->List Nat} {M:List Bool} {t o:List Nat}
theorem Way.trans {a b c:Nat} (h:Way g a b) (h':Way g b c):Way g a c:=by
 induction h with
 | refl _=>exact h'
 | step h1 _ ih=>exact .step h1 (ih h')
theorem Way.lt {N:Nat} (hg:∀ n,∀ y∈g n,y<N) {a b:Nat} (ha:a<N) (h:Way g a b):b<N:=by
 induction h with
 | refl _=>exact ha
 | step h1 _ ih=>exact ih (hg _ _ h1)
def nS (M:List Bool):Nat:=M.count false
theorem wF {n:Nat} (h:M[n]?=some false):nS (M.set n true)+1=nS M:=by
 unfold nS
 induction M generalizing n with
 | nil=>simp at h
 | cons b M ih=>
   cases n with
   | zero=>simp at h;subst h;simp
   | succ n=>
     have:=ih (n:=n) (by simpa using h)
     simp only [List.set_cons_succ,List.count_cons]
     omega
theorem Run.ex {N:Nat} (hg:∀ n,∀ y∈g n,y<N):∀ (k:Nat) (M:List Bool),M.length=N->nS M<=k->∀ t:List Nat,(∀ x∈t,x<N)->∃ o,Run g M t o:=by
 intro k
 induction k with
 | zero=>
   intro M hM hk t
   induction t with
   | nil=>exact fun _=>⟨[],.nil M⟩
   | cons n t ih=>
     intro ht
     obtain ⟨o,ho⟩:=ih fun x hx=>ht x (List.mem_cons_of_mem _ hx)
     have hn:n<M.length:=hM ▸ ht n (List.mem_cons_self ..)
     have e:M[n]?=some M[n]:=List.getElem?_eq_getElem hn
     cases hb:M[n] with
     | true=>exact ⟨o,.skip (by rw [e,hb]) ho⟩
     | false=>have:=wF (by rw [e,hb]:M[n]?=some false);omega
 | succ k ihk=>
   intro M hM hk t
   induction t with
   | nil=>exact fun _=>⟨[],.nil M⟩
   | cons n t ih=>
     intro ht
     have hn:n<M.length:=hM ▸ ht n (List.mem_cons_self ..)
     have e:M[n]?=some M[n]:=List.getElem?_eq_getElem hn
     cases hb:M[n] with
     | true=>
       obtain ⟨o,ho⟩:=ih fun x hx=>ht x (List.mem_cons_of_mem _ hx)
       exact ⟨o,.skip (by rw [e,hb]) ho⟩
     | false=>
       have hu:=wF (by rw [e,hb]:M[n]?=some false)
       obtain ⟨o,ho⟩:=ihk (M.set n true) (by simpa using hM) (by omega) (g n++t) fun x hx=>by
        rcases List.mem_append.1 hx with h | h
        ·exact hg _ _ h
        ·exact ht x (List.mem_cons_of_mem _ h)
       exact ⟨n::o,.go (by rw [e,hb]) ho⟩
theorem XS {n x:Nat} (h:(M.set n true)[x]?=some true):x=n∨M[x]?=some true:=by
 rcases Nat.decEq n x with hn | rfl
 ·rw [List.getElem?_set_ne hn]at h;exact .inr h
 ·exact .inl rfl
theorem DK {n x:Nat} (h:(M.set n true)[x]?=some false):x≠n/\M[x]?=some false:=by
 rcases Nat.decEq n x with hn | rfl
 ·rw [List.getElem?_set_ne hn]at h;exact ⟨fun e=>hn e.symm,h⟩
 ·exfalso
  have hl:=(List.getElem?_eq_some_iff.1 h).1
  rw [List.getElem?_set_self (by simpa using hl)]at h;cases h
theorem Run.new (h:Run g M t o):∀ x∈o,M[x]?=some false:=by
 induction h with
 | nil _=>exact fun x hx=>nomatch hx
 | skip _ _ ih=>exact ih
 | go h1 _ ih=>
   intro x hx
   rcases List.mem_cons.1 hx with rfl | hx
   ·exact h1
   ·exact (DK (ih x hx)).2
theorem Run.nodup (h:Run g M t o):o.Nodup:=by
 induction h with
 | nil _=>exact List.nodup_nil
 | skip _ _ ih=>exact ih
 | go h1 h2 ih=>exact List.nodup_cons.2 ⟨fun hx=>(DK (h2.new _ hx)).1 rfl,ih⟩
theorem Run.closed (h:Run g M t o):(∀ x∈t,M[x]?=some true∨x∈o)/\∀ x∈o,∀ y∈g x,M[y]?=some true∨y∈o:=by
 induction h with
 | nil _=>exact ⟨fun x hx=>(nomatch hx),fun x hx=>(nomatch hx)⟩
 | skip h1 _ ih=>
   refine ⟨fun x hx=>?_,ih.2⟩
   rcases List.mem_cons.1 hx with rfl | hx
   ·exact .inl h1
   ·exact ih.1 x hx
 | go h1 h2 ih=>
   rename_i M n t o
   have key:∀ x,(M.set n true)[x]?=some true∨x∈o->M[x]?=some true∨x∈n::o:=by
    rintro x (hx | hx)
    ·rcases XS hx with rfl | hx
     ·exact .inr (List.mem_cons_self ..)
     ·exact .inl hx
    ·exact .inr (List.mem_cons_of_mem _ hx)
   refine ⟨fun x hx=>?_,fun x hx y hy=>?_⟩
   ·rcases List.mem_cons.1 hx with rfl | hx
    ·exact .inr (List.mem_cons_self ..)
    ·exact key x (ih.1 x (List.mem_append_right _ hx))
   ·rcases List.mem_cons.1 hx with rfl | hx
    ·exact key y (ih.1 y (List.mem_append_left _ hy))
    ·exact key y (ih.2 x hx y hy)
theorem Run.way (h:Run g M t o):∀ x∈o,∃ y∈t,Way g y x:=by
 induction h with
 | nil _=>exact fun x hx=>nomatch hx
 | skip _ _ ih=>exact fun x hx=>let ⟨y,h1,h2⟩:=ih x hx;⟨y,List.mem_cons_of_mem _ h1,h2⟩
 | go h1 _ ih=>
   intro x hx
   rcases List.mem_cons.1 hx with rfl | hx
   ·exact ⟨x,List.mem_cons_self ..,.refl x⟩
   ·obtain ⟨y,h1,h2⟩:=ih x hx
    rcases List.mem_append.1 h1 with h | h
    ·exact ⟨_,List.mem_cons_self ..,.step h h2⟩
    ·exact ⟨y,List.mem_cons_of_mem _ h,h2⟩
theorem Run.iff {N:Nat} (h:Run g (List.replicate N false) t o) {x:Nat}:x∈o↔∃ y∈t,Way g y x:=by
 refine ⟨h.way x,?_⟩
 rintro ⟨y,hy,hw⟩
 have key:∀ z,(List.replicate N false)[z]?=some true∨z∈o->z∈o:=by
  rintro z (hz | hz)
  ·rw [List.getElem?_replicate]at hz;split at hz<;>cases hz
  ·exact hz
 have hc:=h.closed
 have:=key y (hc.1 y hy)
 clear hy
 induction hw with
 | refl _=>exact this
 | step h1 _ ih=>exact ih (key _ (hc.2 _ this _ h1))
theorem aDx {l:List Nat} (h0:∀ x∈t,x∈l) (h1:∀ x∈l,∀ y∈g x,y∈l) {x:Nat} (hx:∃ y∈t,Way g y x):x∈l:=by
 obtain ⟨y,hy,hw⟩:=hx
 have:=h0 y hy
 clear hy
 induction hw with
 | refl _=>exact this
 | step h _ ih=>exact ih (h1 _ this _ h)
theorem MG {o:List Nat} (hn:o.Nodup) {N:Nat} {p:Nat->Bool} (h:∀ x,x∈o↔x<N/\p x=true):
 (o.map fun n:Nat=>(n:Int)).mergeSort (fun x y=>decide (x<=y))=((List.range N).filter p).map fun n:Nat=>(n:Int):=by
 have hs:=List.pairwise_mergeSort (le:=fun x y:Int=>decide (x<=y)) (fun a b c h1 h2=>by simp at h1 h2 ⊢;omega) (fun a b=>by simp;omega) (o.map fun n:Nat=>(n:Int))
 have hp:=List.mergeSort_perm (o.map fun n:Nat=>(n:Int)) fun x y=>decide (x<=y)
 have hq:o.Perm ((List.range N).filter p):=(List.perm_ext_iff_of_nodup hn (List.nodup_range.filter _)).2 fun x=>by
  rw [h x,List.mem_filter,List.mem_range]
 refine (hp.trans (hq.map _)).eq_of_pairwise (le:=fun x y:Int=>x<=y) (fun a b _ _ h1 h2=>Int.le_antisymm h1 h2) (hs.imp fun h=>by simpa using h) ?_
 rw [List.pairwise_map]
 exact (List.pairwise_lt_range.filter _).imp fun h=>by omega
end Go.Abs
/-
 The abstract machine: ranges over a function that keeps objects of its own,and turns them between its rounds.
-/
namespace Go.Abs
noncomputable section
variable {P:Program} {O:bN} {H:cJ}
def yQ:Nat->Prop:=fun _=>False
def StepX (Z Y Y':Nat->Prop) (u u':Sto):Prop:=(∀ id,Y id->Y' id)/\(∀ id,Y' id->Y id∨u.n<=id/\id<u'.n)/\u.n<=u'.n/\∀ id,id<u.n->¬ Y id->¬ Z id->u'.get id=u.get id
def KeepY (Y:Nat->Prop) (u u':Sto):Prop:=u.n<=u'.n/\∀ id,Y id->u'.get id=u.get id
theorem KeepY.refl {Y:Nat->Prop} {u:Sto}:KeepY Y u u:=⟨Nat.le_refl _,fun _ _=>rfl⟩
theorem KeepY.trans {Y:Nat->Prop} {a b c:Sto} (h:KeepY Y a b) (h':KeepY Y b c):KeepY Y a c:=⟨Nat.le_trans h.1 h'.1,fun id hid=>(h'.2 id hid).trans (h.2 id hid)⟩
theorem StepX.sim {Z Y:Nat->Prop} {u u':Sto} (h:Sim u u'):StepX Z Y Y u u':=⟨fun _ h=>h,fun _ h=>.inl h,h.1,fun id hid _ _=>h.2 id hid⟩
theorem StepX.z {Z Y Y':Nat->Prop} {u u':Sto} (h:StepX yQ Y Y' u u'):StepX Z Y Y' u u':=⟨h.1,h.2.1,h.2.2.1,fun id h1 h2 _=>h.2.2.2 id h1 h2 fun h=>h⟩
theorem StepX.get {Z Y Y':Nat->Prop} {u u':Sto} (h:StepX Z Y Y' u u') {id:Nat} {x:AObj} (hg:u.get id=some x) (hy:¬ Y id) (hz:¬ Z id):u'.get id=some x/\¬ Y' id:=
 ⟨(h.2.2.2 id (Sto.get_lt hg) hy hz).trans hg,fun h'=>(h.2.1 id h').elim hy fun h''=>Nat.lt_irrefl _ (Nat.lt_of_lt_of_le (Sto.get_lt hg) h''.1)⟩
theorem StepX.trans {Z Y Y' Y'':Nat->Prop} {a b c:Sto} (h:StepX Z Y Y' a b) (h':StepX Z Y' Y'' b c):StepX Z Y Y'' a c:=
 ⟨fun id x=>h'.1 id (h.1 id x),fun id x=>(h'.2.1 id x).elim (fun y=>(h.2.1 id y).imp (fun y=>y) fun y=>⟨y.1,Nat.lt_of_lt_of_le y.2 h'.2.2.1⟩) fun y=>.inr ⟨Nat.le_trans h.2.2.1 y.1,y.2⟩,Nat.le_trans h.2.2.1 h'.2.2.1,
  fun id h1 h2 h3=>(h'.2.2.2 id (Nat.lt_of_lt_of_le h1 h.2.2.1) (fun y=>(h.2.1 id y).elim h2 fun y=>Nat.lt_irrefl _ (Nat.lt_of_lt_of_le h1 y.1)) h3).trans (h.2.2.2 id h1 h2 h3)⟩
def rX (l:Nat) (J:Nat->(Nat->Prop)->Sto->Prop) (D:(Nat->Prop)->Sto->Prop) (i:Nat) (Y:Nat->Prop) (s:Sto):CRes->Prop
 | .ret (.bool true) so=>(so.getD s).low<=l/\KeepY Y s (so.getD s)/\J (i+1) Y (so.getD s)
 | .ret (.bool false) so=>(so.getD s).low<=l/\KeepY Y s (so.getD s)/\D Y (so.getD s)
 | _=>False
def aMa (n:Nat) (J:Nat->(Nat->Prop)->Sto->Prop) (D:(Nat->Prop)->Sto->Prop) (s:Sto):CRes->Prop
 | .ret _ so=>∃ Y,J n Y (so.getD s)∨D Y (so.getD s)
 | .pan _ _=>False
def XT (P:Program) (O:bN) (fv:AV):Prop:=∀ n args s v so rr,aO P O n fv args s .no=some (.ret v so,rr)->(so.getD s).low<=s.low
theorem MH {s:Sto} {v:AV} {e:Env}:((cT s v e).getD s).low<=s.low:=by
 unfold cT
 cases (Nat.ble s.n e.s.low&&(v.under s.n 100&&CM s.n e.r)) with
 | true=>exact Nat.le_refl _
 | false=>exact Nat.min_le_left _ _
theorem zV {s:Sto} {x:Option (LRes × Env)} {v:AV} {so:Option Sto} {rr:ARec} (h:sY s x=some (.ret v so,rr)):(so.getD s).low<=s.low:=by
 obtain ⟨lr,e',rfl,h⟩:=oF h
 cases lr with
 | ret w=>
   simp only [sY,Option.some.injEq,Prod.mk.injEq,CRes.ret.injEq]at h
   obtain ⟨⟨rfl,rfl⟩,_⟩:=h
   exact MH
 | pan w=>simp [sY]at h
theorem xQ {g:FuncId} {first cap:List AV} (h:∀ a σ,O g a σ=none):XT P O (.func (.func g) first cap):=by
 intro n args s v so rr hd
 cases n with
 | zero=>cases hd
 | succ n=>
   have ho:CN O (.func (.func g) first cap) args s .no=none:=h _ _
   simp only [aO,ho,fW]at hd
   unfold mY at hd
   cases hok:okFn P g with
   | false=>rw [hok]at hd;cases hd
   | true=>
     rw [hok]at hd
     simp only [cond_true]at hd
     split at hd
     ·split at hd
      ·split at hd
       ·exact zV hd
       ·exact zV hd
       ·exact zV hd
       ·cases hd
      ·cases hd
     ·cases hd
def zW (K:Sto->Prop) (b:Nat) (P:Program) (O:bN) (fv:AV) (xs:List (List AV)):Prop:=XT P O fv/\∀ (l:Nat) (J:Nat->(Nat->Prop)->Sto->Prop) (D:(Nat->Prop)->Sto->Prop) (s:Sto),l<s.n->b<=l->(∀ i Y u,J i Y u->K u)->
 (∀ i Y Y' u u',StepX yQ Y Y' u u'->J i Y u->J i Y' u')->(∀ Y Y' u u',StepX yQ Y Y' u u'->D Y u->D Y' u')->J 0 yQ s->
 (∀ i x,xs[i]?=some x->∀ Y u,l<u.n->¬ Y l->(∀ id,Y id->id<u.n)->J i Y u->Wcall P O (.func (.yield l) [] []) x u (rX l J D i Y u))->
 Wcall P O fv [.func (.yield l) [] []] s (aMa xs.length J D s)
def IN (P:Program) (O:bN) (fv:AV) (xs:List (List AV)):Prop:=zW (fun _=>True) 0 P O fv xs
theorem zX {K:Sto->Prop} {b0:Nat} {xs:List (List AV)} {f:Operand} {ps:Array Tmp} {a b:Code} {nt:Nat} {fn:FuncId} {t:Tr AV} {ds:List ADef} {s:Sto} {r:ARec} {Q:Ex->Env->Prop} (J:Nat->(Nat->Prop)->Sto->Prop) (E:Code->(Nat->Prop)->Sto->Prop)
 (hI:zW K b0 P O ((Env.mk nt none fn t ds s r).eval f) xs) (hb0:b0<=s.n+1) (hJK:∀ i Y u,J i Y u->K u)
 (hJ:∀ i Y Y' u u',StepX (fun id=>id=s.n+1) Y Y' u u'->J i Y u->J i Y' u') (hE:∀ c Y Y' u u',StepX (fun id=>id=s.n+1) Y Y' u u'->E c Y u->E c Y' u')
 (hc:∀ c Y u,E c Y u->c=.ret∨∃ id,c=.exit id)
 (h0:J 0 yQ s)
 (hr:∀ i x,xs[i]?=some x->∀ Y (u:Sto),s.n+1<u.n->¬ Y s.n->¬ Y (s.n+1)->(∀ id,Y id->id<u.n)->u.get s.n=some (.defs (some []))->u.get (s.n+1)=some (.loop .ready none fn nt t ps.toList a b s.n)->J i Y u->
   ∃ t',rT nt t ps.toList x=some t'/\Wk P O H a ⟨nt,some (s.n+1),fn,t',[],⟨u.n,u.n,u.o⟩,.no⟩
     (fK P O H (s.n+1) (fun st p=>.loop st p fn nt t ps.toList a b s.n) b (eL P (s.n+1) (fun st p=>.loop st p fn nt t ps.toList a b s.n) (fun i u'=>(KeepY Y u u'/\J i Y u')/\u'.get s.n=some (.defs (some []))) (fun c u'=>(KeepY Y u u'/\E c Y u')/\u'.get s.n=some (.defs (some []))) (fun _ _=>False) i)))
 (hend:∀ Y (u:Sto),s.n+1<u.n->u.low<=s.low->u.get s.n=some (.defs (some []))->J xs.length Y u->Q .normal ⟨nt,none,fn,t,.collected s.n::ds,u,r⟩)
 (hret:∀ Y (u:Sto),s.n+1<u.n->u.low<=s.low->u.get s.n=some (.defs (some []))->E .ret Y u->Q .ret ⟨nt,none,fn,t,.collected s.n::ds,u,r⟩)
 (hexit:∀ id Y (u:Sto),s.n+1<u.n->u.low<=s.low->u.get s.n=some (.defs (some []))->E (.exit id) Y u->Q (.exit id) ⟨nt,none,fn,t,.collected s.n::ds,u,r⟩):
 Wk P O H (.rangeFunc f ps a b) ⟨nt,none,fn,t,ds,s,r⟩ Q:=by
 let lo:LoopState->Option Code->AObj:=fun st p=>.loop st p fn nt t ps.toList a b s.n
 let s1:=s.push (.defs (some []))
 let s2:=s1.push (lo .ready none)
 let Z:Nat->Prop:=fun id=>id=s.n+1
 let B:(Nat->Prop)->Sto->Prop:=fun Y u=>s.n+1<u.n/\¬ Y s.n/\¬ Y (s.n+1)/\u.get s.n=some (.defs (some []))
 let J':Nat->(Nat->Prop)->Sto->Prop:=fun i Y u=>B Y u/\u.get (s.n+1)=some (lo .ready none)/\J i Y u
 let D':(Nat->Prop)->Sto->Prop:=fun Y u=>B Y u/\∃ c,u.get (s.n+1)=some (lo .done (some c))/\E c Y u
 have hB:∀ Y Y' u u',StepX Z Y Y' u u'->¬ Y' (s.n+1)->B Y u->B Y' u':=fun Y Y' u u' hs hl ⟨k1,k2,k3,k4⟩=>by
  obtain ⟨g1,g2⟩:=hs.get k4 k2 (by show ¬ s.n=s.n+1;omega)
  exact ⟨Nat.lt_of_lt_of_le k1 hs.2.2.1,g2,hl,g1⟩
 have hlow:∀ (Y:Nat->Prop) (u:Sto) k,StepX Z Y Y u {u with low:=k}:=fun Y u k=>.sim (Sim.low u k)
 have hput:∀ (Y:Nat->Prop) (u:Sto) x,StepX Z Y Y u (u.put (s.n+1) x):=fun Y u x=>⟨fun _ h=>h,fun _ h=>.inl h,Nat.le_refl _,fun id hid _ hz=>(SimX.put u (s.n+1) x).2 id hid hz⟩
 have e0:s2.get s.n=some (.defs (some [])):=by
  rw [Sto.get_push_lt _ _ (Nat.lt_succ_self _)];exact Sto.get_push_same _ _
 have e1:s2.get (s.n+1)=some (lo .ready none):=Sto.get_push_same s1 _
 have hn2:s.n+1<s2.n:=Nat.lt_succ_self _
 obtain ⟨n,res,rr,hcall,hK⟩:=hI.2 (s.n+1) J' D' s2 hn2 hb0 (fun i Y u h=>hJK i Y u h.2.2)
  (fun i Y Y' u u' hs ⟨k1,k2,k3⟩=>by
    obtain ⟨g1,g2⟩:=hs.get k2 k1.2.2.1 (fun h=>h)
    exact ⟨hB _ _ _ _ hs.z g2 k1,g1,hJ _ _ _ _ _ hs.z k3⟩)
  (fun Y Y' u u' hs ⟨k1,c,k2,k3⟩=>by
    obtain ⟨g1,g2⟩:=hs.get k2 k1.2.2.1 (fun h=>h)
    exact ⟨hB _ _ _ _ hs.z g2 k1,c,g1,hE _ _ _ _ _ hs.z k3⟩)
  ⟨⟨hn2,fun h=>h,fun h=>h,e0⟩,e1,hJ 0 yQ yQ s s2 (.sim ((Sim.push _ _).trans (Sim.push _ _))) h0⟩
  (fun i x hx Y u hu hYl hYb ⟨⟨k0,k1,_,k2⟩,k3,k4⟩=>by
    obtain ⟨t',ht,hw⟩:=hr i x hx Y u k0 k1 hYl hYb k2 k3 k4
    have hkl:∀ e:Sto,KeepY Y u e->∀ x k,KeepY Y u {e.put (s.n+1) x with low:=k}:=fun e he x k=>⟨he.1,fun id hid=>by
     have hne:id≠s.n+1:=fun h=>hYl (h ▸ hid)
     exact (Sto.get_put_ne e x hne).trans (he.2 id hid)⟩
    have hy:=yD (H:=H) (J:=fun i u'=>(KeepY Y u u'/\J i Y u')/\u'.get s.n=some (.defs (some []))) (E:=fun c u'=>(KeepY Y u u'/\E c Y u')/\u'.get s.n=some (.defs (some []))) (X:=fun _ _=>False)
     (J':=fun i u'=>KeepY Y u u'/\J' i Y u') (D:=fun u'=>KeepY Y u u'/\D' Y u') k3 ht ?_ ?_ (fun _ _ _ h=>h) hw
    ·refine hy.mono fun res hk=>?_
     cases res with
     | pan v so=>exact hk.2.elim
     | ret v so=>
       cases v with
       | bool b=>cases b with
         | true=>exact ⟨hk.1,hk.2.2.1,hk.2.2.2⟩
         | false=>exact ⟨hk.1,hk.2.1,hk.2.2⟩
       | _=>exact hk.elim
    ·rintro e he k ⟨⟨q2,q3⟩,q1⟩
     have hst:=(hput Y e (lo .ready none)).trans (hlow Y _ k)
     refine ⟨hkl e q2 _ k,⟨he,k1,hYl,?_⟩,(Sim.low _ k).get (Sto.get_put_same _ _ he),hJ _ _ _ _ _ hst q3⟩
     exact (hst.get q1 k1 (by show ¬ s.n=s.n+1;omega)).1
    ·rintro e c he k ⟨⟨q2,q3⟩,q1⟩
     have hst:=(hput Y e (lo .done (some c))).trans (hlow Y _ k)
     refine ⟨hkl e q2 _ k,⟨he,k1,hYl,?_⟩,c,(Sim.low _ k).get (Sto.get_put_same _ _ he),hE _ _ _ _ _ hst q3⟩
     exact (hst.get q1 k1 (by show ¬ s.n=s.n+1;omega)).1)
 show W P O (.rangeFunc f ps a b) ⟨nt,none,fn,t,ds,s,r⟩ Q
 cases res with
 | pan v so=>exact hK.elim
 | ret v so=>
 have hl2:(so.getD s2).low<=s.low:=hI.1 _ _ _ _ _ _ hcall
 have hd:∀ x,cL ⟨nt,none,fn,t,ds,s,r⟩ (.collected s.n::ds) (s.n+1) (so.getD s2)=some x->bA P (aO P O n) n (.rangeFunc f ps a b) ⟨nt,none,fn,t,ds,s,r⟩=some x:=by
  intro x hx
  show (match aO P O n ((Env.mk nt none fn t ds s r).eval f) [.func (.yield (s.n+1)) [] []] s2 .no with
   | some (.ret _ so,_)=>cL ⟨nt,none,fn,t,ds,s,r⟩ (.collected s.n::ds) (s.n+1) (match so with | some s=>s | none=>s2)
   | some (.pan v so,_)=>some (.panic v,{(Env.mk nt none fn t ds s r) with s:=(match so with | some s=>s | none=>s2),ds:=.collected s.n::ds})
   | none=>none)=some x
  rw [hcall]
  cases so<;>exact hx
 have hpl:∀ x:AObj,((so.getD s2).put (s.n+1) x).low<=s.low:=fun x=>by
  rw [Sto.low_put];exact Nat.le_trans (Nat.min_le_right _ _) hl2
 obtain ⟨Y,hK⟩:=hK
 rcases hK with ⟨⟨k0,k1,k1',k2⟩,k3,k4⟩ | ⟨⟨k0,k1,k1',k2⟩,c,k3,k4⟩
 ·exact ⟨n,.normal,_,hd _ (by simp only [cL,k3,lo]),hend Y ((so.getD s2).put (s.n+1) (lo .exhausted none)) k0 (hpl _) (((hput Y _ _).get k2 k1 (by show ¬ s.n=s.n+1;omega)).1) (hJ _ _ _ _ _ (hput Y _ _) k4)⟩
 ·rcases hc c _ _ k4 with rfl | ⟨id,rfl⟩
  ·exact ⟨n,.ret,_,hd _ (by simp only [cL,k3,lo]),hret Y ((so.getD s2).put (s.n+1) (lo .exhausted (some .ret))) k0 (hpl _) (((hput Y _ _).get k2 k1 (by show ¬ s.n=s.n+1;omega)).1) (hE _ _ _ _ _ (hput Y _ _) k4)⟩
  ·exact ⟨n,.exit id,_,hd _ (by simp only [cL,k3,lo]),hexit id Y ((so.getD s2).put (s.n+1) (lo .exhausted (some (.exit id)))) k0 (hpl _) (((hput Y _ _).get k2 k1 (by show ¬ s.n=s.n+1;omega)).1) (hE _ _ _ _ _ (hput Y _ _) k4)⟩
theorem XU {xs:List (List AV)} {f:Operand} {ps:Array Tmp} {a b:Code} {nt:Nat} {fn:FuncId} {t:Tr AV} {ds:List ADef} {s:Sto} {r:ARec} {Q:Ex->Env->Prop} (J:Nat->(Nat->Prop)->Sto->Prop) (E:Code->(Nat->Prop)->Sto->Prop)
 (hI:IN P O ((Env.mk nt none fn t ds s r).eval f) xs)
 (hJ:∀ i Y Y' u u',StepX (fun id=>id=s.n+1) Y Y' u u'->J i Y u->J i Y' u') (hE:∀ c Y Y' u u',StepX (fun id=>id=s.n+1) Y Y' u u'->E c Y u->E c Y' u')
 (hc:∀ c Y u,E c Y u->c=.ret∨∃ id,c=.exit id)
 (h0:J 0 yQ s)
 (hr:∀ i x,xs[i]?=some x->∀ Y (u:Sto),s.n+1<u.n->¬ Y s.n->¬ Y (s.n+1)->(∀ id,Y id->id<u.n)->u.get s.n=some (.defs (some []))->u.get (s.n+1)=some (.loop .ready none fn nt t ps.toList a b s.n)->J i Y u->
   ∃ t',rT nt t ps.toList x=some t'/\Wk P O H a ⟨nt,some (s.n+1),fn,t',[],⟨u.n,u.n,u.o⟩,.no⟩
     (fK P O H (s.n+1) (fun st p=>.loop st p fn nt t ps.toList a b s.n) b (eL P (s.n+1) (fun st p=>.loop st p fn nt t ps.toList a b s.n) (fun i u'=>(KeepY Y u u'/\J i Y u')/\u'.get s.n=some (.defs (some []))) (fun c u'=>(KeepY Y u u'/\E c Y u')/\u'.get s.n=some (.defs (some []))) (fun _ _=>False) i)))
 (hend:∀ Y (u:Sto),s.n+1<u.n->u.low<=s.low->u.get s.n=some (.defs (some []))->J xs.length Y u->Q .normal ⟨nt,none,fn,t,.collected s.n::ds,u,r⟩)
 (hret:∀ Y (u:Sto),s.n+1<u.n->u.low<=s.low->u.get s.n=some (.defs (some []))->E .ret Y u->Q .ret ⟨nt,none,fn,t,.collected s.n::ds,u,r⟩)
 (hexit:∀ id Y (u:Sto),s.n+1<u.n->u.low<=s.low->u.get s.n=some (.defs (some []))->E (.exit id) Y u->Q (.exit id) ⟨nt,none,fn,t,.collected s.n::ds,u,r⟩):
 Wk P O H (.rangeFunc f ps a b) ⟨nt,none,fn,t,ds,s,r⟩ Q:=
 zX J E hI (Nat.zero_le _) (fun _ _ _ _=>trivial) hJ hE hc h0 hr hend hret hexit
end
end Go.Abs
namespace Go.Abs
noncomputable section
variable {P:Program} {O:bN}
def clC (s:Sto) (K:CRes->Prop) (S:Sto) (r:AV):Prop:=∀ e:Env,e.s=S->e.r=.no->K (.ret r (cT s r e))
theorem iY {g:FuncId} {first cap args:List AV} {s:Sto} {K:CRes->Prop} {fn:Func} {c:Code} {N:Nat} {rs:List ResultVar} (H:cJ) (ho:O g (first++args++cap) s=none) (hok:okFn P g=true) (hf:P.funcs[g]?=some fn) (hn:fn.ntmps=N) (hr:fn.results=rs.toArray) (hb:fn.body=some c)
 (ha:Nat.ble (first++args++cap).length N=true) (h:Wk P O H c ⟨N,none,g,Tr.leaf.lay 0 (first++args++cap),[],⟨s.n,s.n,s.o⟩,.no⟩ (aEd P rs (clC s K))):Wcall P O (.func (.func g) first cap) args s K:=by
 refine sE ho hok hf hb ?_
 have he:BE fn g (first++args++cap) s .no=⟨N,none,g,Tr.leaf.lay 0 (first++args++cap),[],⟨s.n,s.n,s.o⟩,.no⟩:=fN hn ha
 rw [he]
 refine h.sound.mono fun ex e hq=>?_
 have key:(e.r=.no/\∃ S,fS e.s e.ds=some S/\sX (aP P {e with ds:=[],s:=S} rs) (clC s K) S)->Lv P O fn none e (clR s fun res _=>K res):=by
  rintro ⟨h0,S,h1,vs,h3,h4⟩
  refine JK _ e S rfl h1 (nF rfl (by rw [hr];exact h3) ?_)
  exact h4 _ rfl h0
 cases ex with
 | normal=>exact key hq
 | ret=>exact key hq
 | _=>exact hq.elim
theorem zY {s:Sto} {v:AV} {e:Env} (h:v.under s.n 100=false):cT s v e=some {e.s with low:=Nat.min s.low e.s.low}:=by simp [cT,h]
end
end Go.Abs
