/-
  What is reached, in plain words: depth first, and as a set.
-/
import Derived.Test.YtdipddlhenoglaaGreatPa
set_option linter.unusedVariables false
set_option linter.unusedSimpArgs false
namespace Go.Abs
inductive Run (g:Nat->List Nat):List Bool->List Nat->List Nat->Prop
 | nil (M:List Bool):Run g M [] []
 | skip {M:List Bool} {n:Nat} {t o:List Nat}:M[n]?=some true->Run g M t o->Run g M (n::t) o
 | go {M:List Bool} {n:Nat} {t o:List Nat}:M[n]?=some false->Run g (M.set n true) (g n++t) o->Run g M (n::t) (n::o)
inductive Way (g:Nat->List Nat):Nat->Nat->Prop
 | refl (n:Nat):Way g n n
 | step {a b c:Nat}:b∈g a->Way g b c->Way g a c
variable {g:Nat->List Nat} {M:List Bool} {t o:List Nat}
theorem Way.trans {a b c:Nat} (h:Way g a b) (d:Way g b c):Way g a c:=by
 induction h with
 | refl _=>exact d
 | step e _ f=>exact .step e (f d)
theorem Way.lt {N:Nat} (e:∀ n,∀ y∈g n,y<N) {a b:Nat} (d:a<N) (h:Way g a b):b<N:=by
 induction h with
 | refl _=>exact d
 | step c _ f=>exact f (e _ _ c)
def pG (M:List Bool):Nat:=M.count false
theorem zS {n:Nat} (h:M[n]?=some false):pG (M.set n true)+1=pG M:=by
 unfold pG
 induction M generalizing n with
 | nil=>simp at h
 | cons b M a=>
   cases n with
   | zero=>simp at h;subst h;simp
   | succ n=>
     have:=a (n:=n) (by simpa using h);simp only [List.set_cons_succ,List.count_cons];omega
theorem Run.ex {N:Nat} (q:∀ n,∀ y∈g n,y<N):∀ (k:Nat) (M:List Bool),M.length=N->pG M<=k->∀ t:List Nat,(∀ x∈t,x<N)->∃ o,Run g M t o:=by
 intro k
 induction k with
 | zero=>
   intro M f r t
   induction t with
   | nil=>exact fun _=>⟨[],.nil M⟩
   | cons n t m=>
     intro b
     obtain ⟨o,c⟩:=m fun x d=>b x (List.mem_cons_of_mem _ d)
     have l:n<M.length:=f ▸ b n (List.mem_cons_self ..);have e:M[n]?=some M[n]:=List.getElem?_eq_getElem l
     cases a:M[n] with
     | true=>exact ⟨o,.skip (by rw [e,a]) c⟩
     | false=>have:=zS (by rw [e,a]:M[n]?=some false);omega
 | succ k p=>
   intro M f r t
   induction t with
   | nil=>exact fun _=>⟨[],.nil M⟩
   | cons n t m=>
     intro b;have l:n<M.length:=f ▸ b n (List.mem_cons_self ..);have e:M[n]?=some M[n]:=List.getElem?_eq_getElem l
     cases a:M[n] with
     | true=>
       obtain ⟨o,c⟩:=m fun x d=>b x (List.mem_cons_of_mem _ d)
       exact ⟨o,.skip (by rw [e,a]) c⟩
     | false=>
       have u:=zS (by rw [e,a]:M[n]?=some false)
       obtain ⟨o,c⟩:=p (M.set n true) (by simpa using f) aD (g n++t) fun x d=>by
        rcases List.mem_append.1 d with h | h
        ·exact q _ _ h
        ·exact b x (List.mem_cons_of_mem _ h)
       exact ⟨n::o,.go (by rw [e,a]) c⟩
theorem aEt {n x:Nat} (h:(M.set n true)[x]?=some true):x=n∨M[x]?=some true:=by
 rcases Nat.decEq n x with a | rfl
 ·rw [List.getElem?_set_ne a]at h;exact .inr h
 ·exact .inl rfl
theorem HX {n x:Nat} (h:(M.set n true)[x]?=some false):x≠n/\M[x]?=some false:=by
 rcases Nat.decEq n x with a | rfl
 ·rw [List.getElem?_set_ne a]at h;exact ⟨fun e=>a e.symm,h⟩
 ·exfalso
  have b:=(List.getElem?_eq_some_iff.1 h).1;rw [List.getElem?_set_self (by simpa using b)]at h;cases h
theorem Run.new (h:Run g M t o):∀ x∈o,M[x]?=some false:=by
 induction h with
 | nil _=>exact fun x a=>nomatch a
 | skip _ _ b=>exact b
 | go c _ b=>
   intro x a
   rcases List.mem_cons.1 a with rfl | a
   ·exact c
   ·exact (HX (b x a)).2
theorem Run.nodup (h:Run g M t o):o.Nodup:=by
 induction h with
 | nil _=>exact List.nodup_nil
 | skip _ _ a=>exact a
 | go d b a=>exact List.nodup_cons.2 ⟨fun c=>(HX (b.new _ c)).1 rfl,a⟩
theorem Run.closed (h:Run g M t o):(∀ x∈t,M[x]?=some true∨x∈o)/\∀ x∈o,∀ y∈g x,M[y]?=some true∨y∈o:=by
 induction h with
 | nil _=>exact ⟨fun x a=>(nomatch a),fun x a=>(nomatch a)⟩
 | skip d _ c=>
   refine ⟨fun x a=>?_,c.2⟩
   rcases List.mem_cons.1 a with rfl | a
   ·exact .inl d
   ·exact c.1 x a
 | go d f c=>
   rename_i M n t o
   have b:∀ x,(M.set n true)[x]?=some true∨x∈o->M[x]?=some true∨x∈n::o:=by
    rintro x (a | a)
    ·rcases aEt a with rfl | a
     ·exact .inr (List.mem_cons_self ..)
     ·exact .inl a
    ·exact .inr (List.mem_cons_of_mem _ a)
   refine ⟨fun x a=>?_,fun x a y e=>?_⟩
   ·rcases List.mem_cons.1 a with rfl | a
    ·exact .inr (List.mem_cons_self ..)
    ·exact b x (c.1 x (List.mem_append_right _ a))
   ·rcases List.mem_cons.1 a with rfl | a
    ·exact b y (c.1 y (List.mem_append_left _ e))
    ·exact b y (c.2 x a y e)
theorem Run.way (h:Run g M t o):∀ x∈o,∃ y∈t,Way g y x:=by
 induction h with
 | nil _=>exact fun x a=>nomatch a
 | skip _ _ d=>exact fun x a=>let ⟨y,b,c⟩:=d x a;⟨y,List.mem_cons_of_mem _ b,c⟩
 | go b _ d=>
   intro x a
   rcases List.mem_cons.1 a with rfl | a
   ·exact ⟨x,List.mem_cons_self ..,.refl x⟩
   ·obtain ⟨y,b,c⟩:=d x a
    rcases List.mem_append.1 b with h | h
    ·exact ⟨_,List.mem_cons_self ..,.step h c⟩
    ·exact ⟨y,List.mem_cons_of_mem _ h,c⟩
theorem Run.iff {N:Nat} (h:Run g (List.replicate N false) t o) {x:Nat}:x∈o↔∃ y∈t,Way g y x:=by
 refine ⟨h.way x,?_⟩;rintro ⟨y,d,f⟩
 have b:∀ z,(List.replicate N false)[z]?=some true∨z∈o->z∈o:=by
  rintro z (a | a)
  ·rw [List.getElem?_replicate]at a;split at a<;>cases a
  ·exact a
 have c:=h.closed;have:=b y (c.1 y d);clear d
 induction f with
 | refl _=>exact this
 | step e _ k=>exact k (b _ (c.2 _ this _ e))
theorem WV {l:List Nat} (b:∀ x∈t,x∈l) (c:∀ x∈l,∀ y∈g x,y∈l) {x:Nat} (e:∃ y∈t,Way g y x):x∈l:=by
 obtain ⟨y,a,d⟩:=e;have:=b y a;clear a
 induction d with
 | refl _=>exact this
 | step h _ f=>exact f (c _ this _ h)
theorem SD {o:List Nat} (f:o.Nodup) {N:Nat} {p:Nat->Bool} (h:∀ x,x∈o↔x<N/\p x=true):
 (o.map fun n:Nat=>(n:Int)).mergeSort (fun x y=>decide (x<=y))=((List.range N).filter p).map fun n:Nat=>(n:Int):=by
 have m:=List.pairwise_mergeSort (le:=fun x y:Int=>decide (x<=y)) (fun a b c d e=>by simp at d e ⊢;omega) (fun a b=>by simp;omega) (o.map fun n:Nat=>(n:Int))
 have k:=List.mergeSort_perm (o.map fun n:Nat=>(n:Int)) fun x y=>decide (x<=y)
 have l:o.Perm ((List.range N).filter p):=(List.perm_ext_iff_of_nodup f (List.nodup_range.filter _)).2 fun x=>by
  rw [h x,List.mem_filter,List.mem_range]
 refine (k.trans (l.map _)).eq_of_pairwise (le:=fun x y:Int=>x<=y) (fun a b _ _ d e=>Int.le_antisymm d e) (m.imp fun h=>by simpa using h) ?_;rw [List.pairwise_map]
 exact (List.pairwise_lt_range.filter _).imp fun h=>by omega
end Go.Abs
/-
 The abstract machine: ranges over a function that keeps objects of its own,and turns them between its rounds.
-/
namespace Go.Abs
noncomputable section
variable {P:Program} {O:bP} {H:cQ}
def DO:Nat->Prop:=fun _=>False
def StepX (Z Y b:Nat->Prop) (u a:Sto):Prop:=(∀ id,Y id->b id)/\(∀ id,b id->Y id∨u.n<=id/\id<a.n)/\u.n<=a.n/\∀ id,id<u.n->¬ Y id->¬ Z id->a.get id=u.get id
def KeepY (Y:Nat->Prop) (u a:Sto):Prop:=u.n<=a.n/\∀ id,Y id->a.get id=u.get id
theorem KeepY.refl {Y:Nat->Prop} {u:Sto}:KeepY Y u u:=⟨Nat.le_refl _,fun _ _=>rfl⟩
theorem KeepY.trans {Y:Nat->Prop} {a b c:Sto} (h:KeepY Y a b) (e:KeepY Y b c):KeepY Y a c:=⟨Nat.le_trans h.1 e.1,fun id d=>(e.2 id d).trans (h.2 id d)⟩
theorem StepX.sim {Z Y:Nat->Prop} {u b:Sto} (h:Sim u b):StepX Z Y Y u b:=⟨fun _ h=>h,fun _ h=>.inl h,h.1,fun id a _ _=>h.2 id a⟩
theorem StepX.z {Z Y a:Nat->Prop} {u b:Sto} (h:StepX DO Y a u b):StepX Z Y a u b:=⟨h.1,h.2.1,h.2.2.1,fun id c d _=>h.2.2.2 id c d fun h=>h⟩
theorem StepX.get {Z Y c:Nat->Prop} {u e:Sto} (h:StepX Z Y c u e) {id:Nat} {x:AObj} (b:u.get id=some x) (d:¬ Y id) (k:¬ Z id):e.get id=some x/\¬ c id:=
 ⟨(h.2.2.2 id (Sto.get_lt b) d k).trans b,fun f=>(h.2.1 id f).elim d fun a=>Nat.lt_irrefl _ (Nat.lt_of_lt_of_le (Sto.get_lt b) a.1)⟩
theorem StepX.trans {Z Y k d:Nat->Prop} {a b c:Sto} (h:StepX Z Y k a b) (e:StepX Z k d b c):StepX Z Y d a c:=
 ⟨fun id x=>e.1 id (h.1 id x),fun id x=>(e.2.1 id x).elim (fun y=>(h.2.1 id y).imp (fun y=>y) fun y=>⟨y.1,Nat.lt_of_lt_of_le y.2 e.2.2.1⟩) fun y=>.inr ⟨Nat.le_trans h.2.2.1 y.1,y.2⟩,Nat.le_trans h.2.2.1 e.2.2.1,
  fun id f l m=>(e.2.2.2 id (Nat.lt_of_lt_of_le f h.2.2.1) (fun y=>(h.2.1 id y).elim l fun y=>Nat.lt_irrefl _ (Nat.lt_of_lt_of_le f y.1)) m).trans (h.2.2.2 id f l m)⟩
def rX (l:Nat) (J:Nat->(Nat->Prop)->Sto->Prop) (D:(Nat->Prop)->Sto->Prop) (i:Nat) (Y:Nat->Prop) (s:Sto):CRes->Prop
 | .ret (.bool true) a=>(a.getD s).low<=l/\KeepY Y s (a.getD s)/\J (i+1) Y (a.getD s)
 | .ret (.bool false) a=>(a.getD s).low<=l/\KeepY Y s (a.getD s)/\D Y (a.getD s)
 | _=>False
def aTf (n:Nat) (J:Nat->(Nat->Prop)->Sto->Prop) (D:(Nat->Prop)->Sto->Prop) (s:Sto):CRes->Prop
 | .ret _ a=>∃ Y,J n Y (a.getD s)∨D Y (a.getD s)
 | .pan _ _=>False
def aEu (P:Program) (O:bP) (b:AV):Prop:=∀ n args s v a rr,aO P O n b args s .no=some (.ret v a,rr)->(a.getD s).low<=s.low
theorem SE {s:Sto} {v:AV} {e:Env}:((dR s v e).getD s).low<=s.low:=by
 unfold dR
 cases (Nat.ble s.n e.s.low&&(v.under s.n 100&&GJ s.n e.r)) with
 | true=>exact Nat.le_refl _
 | false=>exact Nat.min_le_left _ _
theorem DP {s:Sto} {x:Option (LRes × Env)} {v:AV} {a:Option Sto} {c:ARec} (h:vQ s x=some (.ret v a,c)):(a.getD s).low<=s.low:=by
 obtain ⟨b,e',rfl,h⟩:=pT h
 cases b with
 | ret w=>
   simp only [vQ,Option.some.injEq,Prod.mk.injEq,CRes.ret.injEq]at h;obtain ⟨⟨rfl,rfl⟩,_⟩:=h;exact SE
 | pan w=>simp [vQ]at h
theorem AY {g:FuncId} {first cap:List AV} (h:∀ a σ,O g a σ=none):aEu P O (.func (.func g) first cap):=by
 intro n args s v f e b
 cases n with
 | zero=>cases b
 | succ n=>
   have d:GK O (.func (.func g) first cap) args s .no=none:=h _ _;simp only [aO,d,gP]at b;unfold oG at b
   cases c:okFn P g with
   | false=>rw [c]at b;cases b
   | true=>
     rw [c]at b;simp only [cond_true]at b;split at b
     ·split at b
      ·split at b
       ·exact DP b
       ·exact DP b
       ·exact DP b
       ·cases b
      ·cases b
     ·cases b
def DQ (P:Program) (O:bP) (c:AV) (xs:List (List AV)):Prop:=aEu P O c/\∀ (l:Nat) (J:Nat->(Nat->Prop)->Sto->Prop) (D:(Nat->Prop)->Sto->Prop) (s:Sto),l<s.n->
 (∀ i Y a u b,StepX DO Y a u b->J i Y u->J i a b)->(∀ Y a u b,StepX DO Y a u b->D Y u->D a b)->J 0 DO s->
 (∀ i x,xs[i]?=some x->∀ Y u,l<u.n->¬ Y l->(∀ id,Y id->id<u.n)->J i Y u->Wcall P O (.func (.yield l) [] []) x u (rX l J D i Y u))->
 Wcall P O c [.func (.yield l) [] []] s (aTf xs.length J D s)
theorem xI {xs:List (List AV)} {f:Operand} {ps:Array Tmp} {a b:Code} {m:Nat} {fn:FuncId} {t:Tr AV} {ds:List ADef} {s:Sto} {r:ARec} {Q:Ex->Env->Prop} (J:Nat->(Nat->Prop)->Sto->Prop) (E:Code->(Nat->Prop)->Sto->Prop)
 (hI:DQ P O ((Env.mk m none fn t ds s r).eval f) xs)
 (hJ:∀ i Y y u d,StepX (fun id=>id=s.n+1) Y y u d->J i Y u->J i y d) (hE:∀ c Y y u d,StepX (fun id=>id=s.n+1) Y y u d->E c Y u->E c y d)
 (hc:∀ c Y u,E c Y u->c=.ret∨∃ id,c=.exit id)
 (h0:J 0 DO s)
 (hr:∀ i x,xs[i]?=some x->∀ Y (u:Sto),s.n+1<u.n->¬ Y s.n->¬ Y (s.n+1)->(∀ id,Y id->id<u.n)->u.get s.n=some (.defs (some []))->u.get (s.n+1)=some (.loop .ready none fn m t ps.toList a b s.n)->J i Y u->
   ∃ t',wC m t ps.toList x=some t'/\Wk P O H a ⟨m,some (s.n+1),fn,t',[],⟨u.n,u.n,u.o⟩,.no⟩
     (lL P O H (s.n+1) (fun st p=>.loop st p fn m t ps.toList a b s.n) b (kJ P (s.n+1) (fun st p=>.loop st p fn m t ps.toList a b s.n) (fun i d=>(KeepY Y u d/\J i Y d)/\d.get s.n=some (.defs (some []))) (fun c d=>(KeepY Y u d/\E c Y d)/\d.get s.n=some (.defs (some []))) (fun _ _=>False) i)))
 (aa:∀ Y (u:Sto),s.n+1<u.n->u.low<=s.low->u.get s.n=some (.defs (some []))->J xs.length Y u->Q .normal ⟨m,none,fn,t,.collected s.n::ds,u,r⟩)
 (ad:∀ Y (u:Sto),s.n+1<u.n->u.low<=s.low->u.get s.n=some (.defs (some []))->E .ret Y u->Q .ret ⟨m,none,fn,t,.collected s.n::ds,u,r⟩)
 (S:∀ id Y (u:Sto),s.n+1<u.n->u.low<=s.low->u.get s.n=some (.defs (some []))->E (.exit id) Y u->Q (.exit id) ⟨m,none,fn,t,.collected s.n::ds,u,r⟩):
 Wk P O H (.rangeFunc f ps a b) ⟨m,none,fn,t,ds,s,r⟩ Q:=by
 let lo:LoopState->Option Code->AObj:=fun st p=>.loop st p fn m t ps.toList a b s.n
 let s1:=s.push (.defs (some []))
 let q:=s1.push (lo .ready none)
 let Z:Nat->Prop:=fun id=>id=s.n+1
 let B:(Nat->Prop)->Sto->Prop:=fun Y u=>s.n+1<u.n/\¬ Y s.n/\¬ Y (s.n+1)/\u.get s.n=some (.defs (some []))
 let J':Nat->(Nat->Prop)->Sto->Prop:=fun i Y u=>B Y u/\u.get (s.n+1)=some (lo .ready none)/\J i Y u
 let D':(Nat->Prop)->Sto->Prop:=fun Y u=>B Y u/\∃ c,u.get (s.n+1)=some (lo .done (some c))/\E c Y u
 have hB:∀ Y y u d,StepX Z Y y u d->¬ y (s.n+1)->B Y u->B y d:=fun Y y u d F hl ⟨k1,k2,k3,k4⟩=>by
  obtain ⟨U,V⟩:=F.get k4 k2 (by show ¬ s.n=s.n+1;omega);exact ⟨Nat.lt_of_lt_of_le k1 F.2.2.1,V,hl,U⟩
 have R:∀ (Y:Nat->Prop) (u:Sto) k,StepX Z Y Y u {u with low:=k}:=fun Y u k=>.sim (Sim.low u k)
 have l:∀ (Y:Nat->Prop) (u:Sto) x,StepX Z Y Y u (u.put (s.n+1) x):=fun Y u x=>⟨fun _ h=>h,fun _ h=>.inl h,Nat.le_refl _,fun id I _ hz=>(SimX.put u (s.n+1) x).2 id I hz⟩
 have e0:q.get s.n=some (.defs (some [])):=by
  rw [Sto.get_push_lt _ _ (Nat.lt_succ_self _)];exact Sto.get_push_same _ _
 have e1:q.get (s.n+1)=some (lo .ready none):=Sto.get_push_same s1 _;have ac:s.n+1<q.n:=Nat.lt_succ_self _
 obtain ⟨n,res,rr,A,hK⟩:=hI.2 (s.n+1) J' D' q ac
  (fun i Y y u d F ⟨k1,k2,k3⟩=>by
    obtain ⟨U,V⟩:=F.get k2 k1.2.2.1 (fun h=>h)
    exact ⟨hB _ _ _ _ F.z V k1,U,hJ _ _ _ _ _ F.z k3⟩)
  (fun Y y u d F ⟨k1,c,k2,k3⟩=>by
    obtain ⟨U,V⟩:=F.get k2 k1.2.2.1 (fun h=>h)
    exact ⟨hB _ _ _ _ F.z V k1,c,U,hE _ _ _ _ _ F.z k3⟩)
  ⟨⟨ac,fun h=>h,fun h=>h,e0⟩,e1,hJ 0 DO DO s q (.sim ((Sim.push _ _).trans (Sim.push _ _))) h0⟩
  (fun i x hx Y u hu G ae ⟨⟨k0,k1,_,k2⟩,k3,k4⟩=>by
    obtain ⟨t',ht,hw⟩:=hr i x hx Y u k0 k1 G ae k2 k3 k4
    have ab:∀ e:Sto,KeepY Y u e->∀ x k,KeepY Y u {e.put (s.n+1) x with low:=k}:=fun e L x k=>⟨L.1,fun id I=>by
     have ag:id≠s.n+1:=fun h=>G (h ▸ I)
     exact (Sto.get_put_ne e x ag).trans (L.2 id I)⟩
    have hy:=BL (H:=H) (J:=fun i d=>(KeepY Y u d/\J i Y d)/\d.get s.n=some (.defs (some []))) (E:=fun c d=>(KeepY Y u d/\E c Y d)/\d.get s.n=some (.defs (some []))) (X:=fun _ _=>False)
     (J':=fun i d=>KeepY Y u d/\J' i Y d) (D:=fun d=>KeepY Y u d/\D' Y d) k3 ht ?_ ?_ (fun _ _ _ h=>h) hw
    ·refine hy.mono fun res N=>?_
     cases res with
     | pan v w=>exact N.2.elim
     | ret v w=>
       cases v with
       | bool b=>cases b with
         | true=>exact ⟨N.1,N.2.2.1,N.2.2.2⟩
         | false=>exact ⟨N.1,N.2.1,N.2.2⟩
       | _=>exact N.elim
    ·rintro e L k ⟨⟨q2,q3⟩,q1⟩
     have C:=(l Y e (lo .ready none)).trans (R Y _ k);refine ⟨ab e q2 _ k,⟨L,k1,G,?_⟩,(Sim.low _ k).get (Sto.get_put_same _ _ L),hJ _ _ _ _ _ C q3⟩;exact (C.get q1 k1 (by show ¬ s.n=s.n+1;omega)).1
    ·rintro e c L k ⟨⟨q2,q3⟩,q1⟩
     have C:=(l Y e (lo .done (some c))).trans (R Y _ k);refine ⟨ab e q2 _ k,⟨L,k1,G,?_⟩,c,(Sim.low _ k).get (Sto.get_put_same _ _ L),hE _ _ _ _ _ C q3⟩
     exact (C.get q1 k1 (by show ¬ s.n=s.n+1;omega)).1)
 show W P O (.rangeFunc f ps a b) ⟨m,none,fn,t,ds,s,r⟩ Q
 cases res with
 | pan v w=>exact hK.elim
 | ret v w=>
 have af:(w.getD q).low<=s.low:=hI.1 _ _ _ _ _ _ A
 have hd:∀ x,cV ⟨m,none,fn,t,ds,s,r⟩ (.collected s.n::ds) (s.n+1) (w.getD q)=some x->bE P (aO P O n) n (.rangeFunc f ps a b) ⟨m,none,fn,t,ds,s,r⟩=some x:=by
  intro x hx
  show (match aO P O n ((Env.mk m none fn t ds s r).eval f) [.func (.yield (s.n+1)) [] []] q .no with
   | some (.ret _ w,_)=>cV ⟨m,none,fn,t,ds,s,r⟩ (.collected s.n::ds) (s.n+1) (match w with | some s=>s | none=>q)
   | some (.pan v w,_)=>some (.panic v,{(Env.mk m none fn t ds s r) with s:=(match w with | some s=>s | none=>q),ds:=.collected s.n::ds})
   | none=>none)=some x
  rw [A];cases w<;>exact hx
 have T:∀ x:AObj,((w.getD q).put (s.n+1) x).low<=s.low:=fun x=>by
  rw [Sto.low_put];exact Nat.le_trans (Nat.min_le_right _ _) af
 obtain ⟨Y,hK⟩:=hK
 rcases hK with ⟨⟨k0,k1,ah,k2⟩,k3,k4⟩ | ⟨⟨k0,k1,ah,k2⟩,c,k3,k4⟩
 ·exact ⟨n,.normal,_,hd _ (by simp only [cV,k3,lo]),aa Y ((w.getD q).put (s.n+1) (lo .exhausted none)) k0 (T _) (((l Y _ _).get k2 k1 (by show ¬ s.n=s.n+1;omega)).1) (hJ _ _ _ _ _ (l Y _ _) k4)⟩
 ·rcases hc c _ _ k4 with rfl | ⟨id,rfl⟩
  ·exact ⟨n,.ret,_,hd _ (by simp only [cV,k3,lo]),ad Y ((w.getD q).put (s.n+1) (lo .exhausted (some .ret))) k0 (T _) (((l Y _ _).get k2 k1 (by show ¬ s.n=s.n+1;omega)).1) (hE _ _ _ _ _ (l Y _ _) k4)⟩
  ·exact ⟨n,.exit id,_,hd _ (by simp only [cV,k3,lo]),S id Y ((w.getD q).put (s.n+1) (lo .exhausted (some (.exit id)))) k0 (T _) (((l Y _ _).get k2 k1 (by show ¬ s.n=s.n+1;omega)).1) (hE _ _ _ _ _ (l Y _ _) k4)⟩
end
end Go.Abs
namespace Go.Abs
noncomputable section
variable {P:Program} {O:bP}
def clC (s:Sto) (K:CRes->Prop) (S:Sto) (r:AV):Prop:=∀ e:Env,e.s=S->e.r=.no->K (.ret r (dR s r e))
theorem uI {g:FuncId} {first cap args:List AV} {s:Sto} {K:CRes->Prop} {fn:Func} {c:Code} {N:Nat} {f:List ResultVar} (H:cQ) (A:O g (first++args++cap) s=none) (b:okFn P g=true) (w:P.funcs[g]?=some fn) (y:fn.ntmps=N) (B:fn.results=f.toArray) (u:fn.body=some c)
 (q:Nat.ble (first++args++cap).length N=true) (h:Wk P O H c ⟨N,none,g,Tr.leaf.lay 0 (first++args++cap),[],⟨s.n,s.n,s.o⟩,.no⟩ (aPy P f (clC s K))):Wcall P O (.func (.func g) first cap) args s K:=by
 refine uU A b w u ?_;have v:EY fn g (first++args++cap) s .no=⟨N,none,g,Tr.leaf.lay 0 (first++args++cap),[],⟨s.n,s.n,s.o⟩,.no⟩:=iA y q;rw [v]
 refine h.sound.mono fun ex e d=>?_
 have a:(e.r=.no/\∃ S,gA e.s e.ds=some S/\vX (aU P {e with ds:=[],s:=S} f) (clC s K) S)->Lv P O fn none e (clR s fun res _=>K res):=by
  rintro ⟨k,S,l,vs,m,p⟩;refine XT _ e S rfl l (qR rfl (by rw [B];exact m) ?_);exact p _ rfl k
 cases ex with
 | normal=>exact a d
 | ret=>exact a d
 | _=>exact d.elim
theorem SF {s:Sto} {v:AV} {e:Env} (h:v.under s.n 100=false):dR s v e=some {e.s with low:=Nat.min s.low e.s.low}:=by simp [dR,h]
end
end Go.Abs
/-
 Values: kA of values,joined.
-/
namespace Go.Abs
noncomputable section
theorem xJ {k:Nat} {a:AV} {xs:List AV} (h:Sl a xs) (b:∀ x∈xs,x.cells.length=k/\x.cells.all AV.isCell=true) {s:Sto}:CB s k a=some (xs.length,(xs.map AV.cells).flatten):=by
 rcases h.1 with ⟨rfl,rfl⟩ | ⟨c,rfl⟩
 ·rfl
 ·rw [FE b,<-List.flatMap_def]
theorem aEv {s:Sto} {k by_ id g len c n:Nat} {F z new:List AV} (m:s.get id=some (aR g (F++z))) (r:F.length=len*k) (a:(F++z).length=c*k) (d:len+n<=c) (v:new.length=n*k) (w:(2*c+1024)*by_<=281474976710656/\c<4611686018427387904):
 ∃ g' z',apF s k by_ (.sl id g 0 len (fJ k len c)) (some (n,new))=some (.val' (.sl id g' 0 (len+n) (fJ k (len+n) c)) (s.put id (aR g' ((F++new)++z'))))/\((F++new)++z').length=c*k:=by
 by_cases l:len=c
 ·subst l
  obtain rfl:n=0:=by omega
  obtain rfl:new=[]:=List.eq_nil_of_length_eq_zero aD;refine ⟨g+1,z,?_,by simpa using a⟩;rw [BJ,tP,m,yI a (by simp) (by simpa using w)];simp [BJ]
 ·have u:Nat.beq len c=false:=by
   cases h:Nat.beq len c with
   | false=>rfl
   | true=>exact absurd (Nat.eq_of_beq_eq_true h) l
  have p:Nat.ble (len+n) c=true:=by simpa using d
  have y:Nat.ble (0+c*k) (F++z).length=true:=by simp only [a,Nat.zero_add];simp
  have q:len*k+n*k<=c*k:=by rw [<-Nat.add_mul];exact Nat.mul_le_mul_right k d
  have e:len*k+new.length<=(F++z).length:=by rw [v,a];exact q
  have f:dH (F++z) (len*k) new=(F++new)++z.drop new.length:=by
   rw [dH,<-r,List.take_left,List.drop_append,List.drop_of_length_le aD];simp
  refine ⟨g,z.drop new.length,?_,?_⟩
  ·simp only [fJ,u,cond_false,apF,p,cond_true,m,aR,Nat.beq_refl,Bool.and_self,Nat.zero_add]
   rw [Tr.lay_lay _ _ _ e,f]
   have:(F++z).length=((F++new)++z.drop new.length).length:=by rw [<-f,oN _ _ _ e]
   have b:Nat.ble (c*k) (F++z).length=true:=by rw [a];simp
   rw [this]at b;rw [this,b];rfl
  ·rw [<-f,oN _ _ _ e];exact a
end
end Go.Abs
namespace Go.Proofs.YtdipddlhenoglaaGreat
open Go.Abs Go Go.Abs.TryzF
noncomputable section
set_option maxRecDepth 10000
def bQ (ls:List AV):List AV:=(ls.map AV.els).flatten
theorem zT {ls:List AV} {i:Nat} {x:AV} (h:ls[i]?=some x):bQ (ls.take (i+1))=bQ (ls.take i)++x.els:=by
 simp [bQ,List.take_add_one,h]
theorem JS {ls:List AV} (i:Nat):(bQ (ls.take i)).length<=(bQ ls).length:=by
 have:bQ ls=bQ (ls.take i)++bQ (ls.drop i):=by rw [bQ,bQ,bQ,<-List.flatten_append,<-List.map_append,List.take_append_drop]
 rw [this,List.length_append];omega
theorem kX {ls:List AV} (h:∀ x∈ls,cG x):∀ y∈bQ ls,nP y:=fun y a=>by
 obtain ⟨l,d,a⟩:=List.mem_flatten.1 a;obtain ⟨x,e,rfl⟩:=List.mem_map.1 d;obtain ⟨xs,b,c⟩:=h x e;rw [b.els]at a;exact c y a
theorem aVy {s:Sto} {n:Nat} (f:n≠0) (h:n<=100000):aX Tryz.prog s .append [59,3].toArray [.nils,.int .i64 (n:Nat)]=some (.val' (.sl s.n 0 0 n (.room 2)) (s.push (ob (dA [.int .i64 0,.int .i64 0] n)))):=by
 have a:Nat.blt 0 n=true:=by simp;omega
 have b:∀ by_,by_=16->fM s 2 by_ [] (dA [.int .i64 0,.int .i64 0] n) n=some (.val' (.sl s.n 0 0 n (.room 2)) (s.push (ob (dA [.int .i64 0,.int .i64 0] n)))):=fun by_ e=>by
  subst e;simp only [fM,uW (n:=n) (by_:=16) aD,cond_true,List.nil_append,nY,AP (cs:=[.int .i64 0,.int .i64 0]) rfl n,if_true]
 have c:aX Tryz.prog s .append [59,3].toArray [.nils,.int .i64 (n:Nat)]=uC Tryz.prog s 59 .nils (.int .i64 (.ofNat n)):=rfl;have d:uC Tryz.prog s 59 .nils (.int .i64 (.ofNat n))=bif Nat.blt 0 n&&(Nat.beq 2 2&&Nat.blt 0 2) then fM s 2 16 [] (dA [.int .i64 0,.int .i64 0] n) n else none:=rfl;rw [c,d,a];exact b 16 rfl
theorem aTg {s:Sto}:aX Tryz.prog s .cap [59].toArray [.nils]=some (.val (.int .i64 0)):=rfl
theorem slN:fK Tryz.prog 59 .nils none (some (.int .i64 0)) none=some .nils:=rfl
theorem slZ {id g n:Nat} (h:0<n):fK Tryz.prog 59 (.sl id g 0 n (.room 2)) none (some (.int .i64 0)) none=some (.sl id g 0 0 (fJ 2 0 n)):=by
 show UF (some 2) (.sl id g 0 n (.room 2)) none (some (.int .i64 0)) none none=_;exact aQs (Int.le_refl 0) aD h
theorem aTh {s:Sto} {n:Nat} (a:n≠0) (b:n<=100000):apC none s .nils (.int .i64 (n:Nat)) (pR Tryz.prog s .append [59,3].toArray [.nils,.int .i64 (n:Nat)])=some (.val' (.sl s.n 0 0 n (.room 2)) (s.push (ob (dA [.int .i64 0,.int .i64 0] n)))):=aVy a b
set_option maxHeartbeats 1000000 in
theorem aEw {O:bP} (u:∀ a s,O 180 a s=none) {n:Nat} (r:n<=100000) {s:Sto} {K:CRes->Prop} (p:n=0->K (.ret .nils none))
 (q:0<n->K (.ret (.sl s.n 0 0 0 (fJ 2 0 n)) (some ⟨s.n+1,Nat.min s.low s.n,s.o.set s.n (ob (dA [.int .i64 0,.int .i64 0] n))⟩))):
 Wcall Tryz.prog O (.func (.func 180) [] []) [.nils,.int .i64 (n:Nat)] s K:=by
 refine uI (first:=[]) (cap:=[]) aL (u _ _) (by kernel_rfl) Tryz.func180 Tryz.ntmps180 Tryz.results180 rfl rfl ?_;obtain ⟨b,low,o⟩:=s;have k1:(((n:Nat):Int)<0)=False:=eq_false aD
 have m:IntKind.i64.wrap (((n:Nat):Int)-IntKind.i64.wrap (0-0))=((n:Nat):Int):=by rw [show IntKind.i64.wrap (0-0)=0 from rfl,Int.sub_zero];exact IntWalk.i64_in _ aD
 rcases Nat.eq_zero_or_pos n with v | k
 ·subst v
  refine NC @aTg @m ?_;refine ⟨rfl,_,rfl,_,rfl,fun e c l=>?_⟩;rw [tN (by rw [c];exact Nat.le_refl _) rfl l];exact p rfl
 ·have f:n≠0:=by omega
  have k2:(0<((n:Nat):Int))=True:=eq_true aD;refine wW @k1 @k2 @m @aTg @slN @slZ @k @aTh @r @f ?_;refine ⟨rfl,_,rfl,[.sl b 0 0 0 (fJ 2 0 n)],rfl,fun e c l=>?_⟩
  have d:(AV.sl b 0 0 0 (fJ 2 0 n)).under b 100=false:=Bool.eq_false_iff.2 fun h=>Nat.lt_irrefl b (Nat.le_of_ble_eq_true h)
  show K (.ret (AV.sl b 0 0 0 (fJ 2 0 n)) (dR ⟨b,low,o⟩ (AV.sl b 0 0 0 (fJ 2 0 n)) e));rw [SF d,c];exact q k
def aPs (args:List AV) (s:Sto) (res:CRes):Prop:=∃ id g c ls,args=[.sl id g 0 ls.length c]/\s.get id=some (aR g ls)/\res=.ret (bJ (bQ ls)) none/\bT Tryz.prog 125 args s res
set_option maxHeartbeats 4000000 in
theorem ZS {id g:Nat} {c:ACap} {ls:List AV} {s:Sto} (S:s.get id=some (aR g ls)) (T:∀ x∈ls,cG x) (hl:ls.length<=1000) (hc:(bQ ls).length<=100000):∃ res,aPs [.sl id g 0 ls.length c] s res:=by
 refine ⟨_,id,g,c,ls,rfl,S,rfl,?_⟩;refine uL (L:=[]) aE aL (by kernel_rfl) Tryz.func125 Tryz.ntmps125 Tryz.results125 rfl rfl ?_;obtain ⟨n0,aj,o0⟩:=s;have Z:id<n0:=Sto.get_lt S;rw [Sto.get_mk Z]at S;have f0:=fX Z;refine AC ?_
 refine aM (fun i e=>∃ t,e=⟨36,none,125,t,[],⟨n0,n0,o0⟩,.no⟩/\t.val 0=.sl id g 0 ls.length c/\t.val 9=.sl id g 0 ls.length c/\t.val 10=.int .i64 (ls.length:Nat)/\t.val 11=.int .i64 (i:Nat)/\t.val 3=.int .i64 ((bQ (ls.take i)).length:Nat)/\i<=ls.length) (fun i=>ls.length-i) 0
  ⟨_,rfl,aG,aG,aG,eT,eT,Nat.zero_le _⟩ ?_
 rintro i _ ⟨t,rfl,t0,t9,A,E,t3,N⟩
 rcases Nat.lt_or_ge i ls.length with m | w
 ·obtain ⟨x,f,hm,l,_,aa,hw,u⟩:=bI (k:=1) (fun x h=>tu_vals.len h) T (show ls.length<=9223372036854775807 by omega) m
  have V:=(tu_vals x f).2;obtain ⟨xs,d,G⟩:=f;have p:=zT l;have r:=JS (ls:=ls) (i+1);rw [p,List.length_append,d.els]at r
  have ag:IntKind.i64.wrap ((((bQ (ls.take i)).length:Nat):Int)+((xs.length:Nat):Int))=(((bQ (ls.take (i+1))).length:Nat):Int):=by
   rw [p,List.length_append,d.els,IntWalk.i64_in _ aD];rfl
  have k1:((((bQ (ls.take (i+1))).length:Nat):Int)<0)=False:=eq_false aD;have k2:(0<=((i:Nat):Int))=True:=eq_true aD;refine LD @t9 @A @E @t3 @S @f0 @u @l @hw @ag @k1 @k2 d.lX @Int.toNat_natCast @Nat.mul_one @Nat.zero_add ?_;exact ⟨i+1,by show _-_<_-_;omega,_,rfl,aN @t0,aN @t9,aN @A,aG,aG,m⟩
 ·obtain rfl:i=ls.length:=Nat.le_antisymm N w
  refine IK @A @E @t3 @bG ?_;rw [List.take_length];refine (qY (first:=[]) (cap:=[])).1 (aEw (fun _ _=>rfl) hc (fun h0=>?_) fun hp=>?_)
  ·rw [IT]
   have ab:bQ ls=[]:=List.eq_nil_of_length_eq_zero h0;refine AE @t0 ?_
   refine aM (fun i e=>∃ t,e=⟨36,none,125,t,[],⟨n0,n0,o0⟩,.no⟩/\t.val 25=.sl id g 0 ls.length c/\t.val 26=.int .i64 (ls.length:Nat)/\t.val 27=.int .i64 (i:Nat)/\t.val 6=.nils/\i<=ls.length) (fun i=>ls.length-i) 0
    ⟨_,rfl,aG,aG,eT,aG,Nat.zero_le _⟩ ?_
   clear t0 t9 A E t3 N;rintro i _ ⟨t,rfl,B,q,C,t6,N⟩
   rcases Nat.lt_or_ge i ls.length with m | w
   ·obtain ⟨x,f,hm,l,_,aa,hw,u⟩:=bI (k:=1) (fun x h=>tu_vals.len h) T (show ls.length<=9223372036854775807 by omega) m
    have V:=(tu_vals x f).2;obtain ⟨xs,d,G⟩:=f;have r:=JS (ls:=ls) (i+1);rw [zT l,List.length_append,d.els,h0]at r;obtain rfl:xs=[]:=List.eq_nil_of_length_eq_zero aD;have k2:(0<=((i:Nat):Int))=True:=eq_true aD
    have I:∀ {low:Nat},CB ⟨n0,low,o0⟩ 2 x=some (0,[]):=fun {low}=>xJ d (fun _ h=>(nomatch h))
    refine GQ @B @q @C @t6 @S @f0 @u @l @hw @k2 @I @AL @Int.toNat_natCast @Nat.mul_one @Nat.zero_add ?_;exact ⟨i+1,by show _-_<_-_;omega,_,rfl,aN @B,aN @q,aG,aG,m⟩
   ·obtain rfl:i=ls.length:=Nat.le_antisymm N w
    refine IK @q @C @t6 @bG ?_;refine ⟨rfl,_,rfl,?_⟩;refine AC ?_;rw [ab];exact .und _ eU
  ·rw [FN]
   refine AE @t0 ?_;have ah:((dA [.int .i64 0,.int .i64 0] (bQ ls).length:List AV)).length=(bQ ls).length*2:=GB _
   refine aM (fun i e=>∃ t low o g' z,e=⟨36,none,125,t,[],⟨n0+1,low,o⟩,.no⟩/\t.val 25=.sl id g 0 ls.length c/\t.val 26=.int .i64 (ls.length:Nat)/\t.val 27=.int .i64 (i:Nat)/\t.val 6=.sl n0 g' 0 (bQ (ls.take i)).length (fJ 2 (bQ (ls.take i)).length (bQ ls).length)/\
    o.get id=some (aR g ls)/\o.get n0=some (aR g' (((bQ (ls.take i)).map AV.cells).flatten++z))/\(((bQ (ls.take i)).map AV.cells).flatten++z).length=(bQ ls).length*2/\n0<=low/\i<=ls.length) (fun i=>ls.length-i) 0
    ⟨_,_,_,0,dA [.int .i64 0,.int .i64 0] (bQ ls).length,rfl,aG,aG,eT,eT,?_,?_,by simpa [bQ] using ah,?_,Nat.zero_le _⟩ ?_
   ·exact ag2 @f0 @S
   ·rw [Tr.get_set_same];simp [bQ]
   ·exact Nat.le_min.2 ⟨Nat.le_refl _,Nat.le_refl _⟩
   clear t0 t9 A E t3 N;rintro i _ ⟨t,low,o,g',z,rfl,B,q,C,t6,Y,D,J,F,N⟩
   have ad:∀ y∈bQ (ls.take i),nP y:=kX fun x Q=>T x (List.mem_of_mem_take Q)
   have X:((bQ (ls.take i)).map AV.cells).flatten.length=(bQ (ls.take i)).length*2:=by
    have:=dJ (k:=2) ((bQ (ls.take i)).map AV.cells) fun x Q=>by obtain ⟨y,R,rfl⟩:=List.mem_map.1 Q;exact tk_val.len (ad y R)
    rw [this,List.length_map]
   rcases Nat.lt_or_ge i ls.length with m | w
   ·obtain ⟨x,f,hm,l,_,aa,hw,u⟩:=bI (k:=1) (fun x h=>tu_vals.len h) T (show ls.length<=9223372036854775807 by omega) m
    have V:=(tu_vals x f).2;obtain ⟨xs,d,G⟩:=f;have r:=JS (ls:=ls) (i+1);have p:=zT l;rw [p,List.length_append,d.els]at r;have k2:(0<=((i:Nat):Int))=True:=eq_true aD;have U:∀ y∈xs,y.cells.length=2/\y.cells.all AV.isCell=true:=sS tk_val G
    have I:∀ {low:Nat},CB ⟨n0+1,low,o⟩ 2 x=some (xs.length,(xs.map AV.cells).flatten):=fun {low}=>xJ d U
    have ae:(xs.map AV.cells).flatten.length=xs.length*2:=by
     have:=dJ (k:=2) (xs.map AV.cells) fun x Q=>by obtain ⟨y,R,rfl⟩:=List.mem_map.1 Q;exact (U y R).1
     rw [this,List.length_map]
    obtain ⟨g2,z2,he,ai⟩:=aEv (s:=⟨n0+1,low,o⟩) (by_:=16) (c:=(bQ ls).length) (n:=xs.length) ((Sto.get_mk (show n0<n0+1 by omega)).trans D) X J r ae aD;refine GQ @B @q @C @t6 @Y @f0 @u @l @hw @k2 @I @he @Int.toNat_natCast @Nat.mul_one @Nat.zero_add ?_;rw [d.els]at p
    have af:(bQ (ls.take (i+1))).length=(bQ (ls.take i)).length+xs.length:=by rw [p,List.length_append]
    have ac:((bQ (ls.take (i+1))).map AV.cells).flatten=((bQ (ls.take i)).map AV.cells).flatten++(xs.map AV.cells).flatten:=by rw [p,List.map_append,List.flatten_append]
    refine ⟨i+1,by show _-_<_-_;omega,_,_,_,g2,z2,rfl,aN @B,aN @q,aG,?_,?_,?_,?_,Nat.le_min.2 ⟨Nat.le_refl _,F⟩,m⟩
    ·rw [af];exact aG
    ·rw [Tr.get_set_ne _ _ aD];exact Y
    ·rw [Tr.get_set_same,ac]
    ·rw [ac];exact ai
   ·obtain rfl:i=ls.length:=Nat.le_antisymm N w
    refine IK @q @C @t6 @bG ?_;refine ⟨rfl,_,rfl,?_⟩;refine AC ?_;rw [List.take_length]at D J X ⊢;obtain rfl:z=[]:=List.eq_nil_of_length_eq_zero (by rw [List.length_append]at J;omega);rw [List.append_nil]at D;refine ⟨F,?_⟩;have hv:=kX T;rw [bJ,if_neg aD,<-xL tk_val hv]
    refine CN (Nat.le_refl _) ((Sto.get_mk (show n0<n0+1 by omega)).trans D) (by simp) (sR tk_val hv) fun x Q y R=>?_
    obtain ⟨v,hm,rfl⟩:=List.mem_map.1 Q;obtain ⟨_,_,rfl,⟨a,rfl⟩,⟨b,rfl⟩⟩:=hv v hm
    rcases List.mem_cons.1 R with rfl | R
    ·exact aS
    ·obtain rfl:=List.mem_singleton.1 R
     exact aS
def SH (fs:List AV):List AV:=(fs.map fun f=>[f.fld 1,f.fld 2]).flatten
def qB (vs:AV) (fs:List AV):List AV:=vs::SH fs
def DR (o:AV):List AV:=qB (o.fld 2) (o.fld 3).els
def cW (o:AV):List AV:=bQ (DR o)
theorem NX {fs:List AV} {i:Nat} {f:AV} (h:fs[i]?=some f):SH (fs.take (i+1))=SH (fs.take i)++[f.fld 1,f.fld 2]:=by simp [SH,List.take_add_one,h]
theorem JT (fs:List AV):(SH fs).length=fs.length*2:=by
 unfold SH;rw [dJ (k:=2) _ fun x a=>by obtain ⟨f,_,rfl⟩:=List.mem_map.1 a;rfl,List.length_map]
theorem NY {fs:List AV} (h:∀ f∈fs,XM f):∀ x∈SH fs,cG x:=fun x a=>by
 obtain ⟨l,e,a⟩:=List.mem_flatten.1 a;obtain ⟨f,d,rfl⟩:=List.mem_map.1 e;obtain ⟨_,_,_,rfl,_,b,c⟩:=h f d
 rcases List.mem_cons.1 a with rfl | a
 ·exact b
 ·obtain rfl:=List.mem_singleton.1 a;exact c
theorem pH {o:AV} (h:vO o):∀ x∈DR o,cG x:=fun x a=>by
 obtain ⟨_,_,_,_,rfl,_,_,b,fs,c,d⟩:=h
 rcases List.mem_cons.1 a with rfl | a
 ·exact b
 ·refine NY (fs:=fs) d x ?_
  rw [<-c.els];exact a
def xK (o:AV):Prop:=vO o/\(o.fld 3).els.length<=400/\(cW o).length<=100000
abbrev JU (o:AV):AV:=.func (.func 124) [] [.pf o]
theorem ZT (o:AV) (h:vO o):Abs.Returns Tryz.prog 82 [o] (JU o):=by
 have a:=(tk_ob o h).1;obtain ⟨_,cs,rfl,c,b⟩:=tk_ob o h;refine bM (L:=[]) aE aL (by kernel_rfl) Tryz.func82 Tryz.ntmps82 Tryz.results82 rfl rfl (aA a.und aC) ?_;refine AE @b ?_;exact mA (cs:=cs) rfl rfl (wK a)
def AZ (o:AV):List (List AV):=(cW o).map fun v=>[v]
set_option maxHeartbeats 4000000 in
theorem NZ {o:AV} (ho:xK o) {O:bP} (h1:∀ a σ,O 124 a σ=none)
 (h2:∀ id g c ls (s:Sto),s.get id=some (aR g ls)->(∀ x∈ls,cG x)->ls.length<=1000->(bQ ls).length<=100000->O 125 [.sl id g 0 ls.length c] s=some (.ret (bJ (bQ ls)) none)):
 DQ Tryz.prog O (JU o) (AZ o):=by
 refine ⟨AY h1,fun l J D σ hl hJ hD ac hr=>?_⟩;refine uI (first:=[]) (cap:=[.pf o]) aL (h1 _ _) (by kernel_rfl) Tryz.func124 Tryz.ntmps124 Tryz.results124 rfl rfl ?_;obtain ⟨hT,bb,Z⟩:=ho;have q:=pH hT;unfold AZ at hr ⊢;rw [List.length_map];unfold cW DR at Z hr ⊢;unfold DR at q;obtain ⟨c0,c1,vs,fs,rfl,⟨k0,rfl⟩,⟨k1,rfl⟩,bf,am⟩:=hT;have al:=(tu_vals vs bf).2;have az:=(eE fs am).2;obtain ⟨m,Q,af⟩:=am;have e2:(AV.agg [.int .i64 k0,.int .i64 k1,vs,fs]).fld 2=vs:=rfl;have e3:((AV.agg [.int .i64 k0,.int .i64 k1,vs,fs]).fld 3).els=m:=Q.els;rw [e2,e3]at Z q hr ⊢;rw [e3]at bb;obtain ⟨n0,bg,o0⟩:=σ;have s1:∀ {a:AV},[AV.nils].set (0*1) a=[a]:=rfl;have s2:∀ {a b:AV},([AV.nils,AV.nils].set (0*1) a).set (1*1) b=[a,b]:=rfl;refine IK @al @az Q.lX @s1 ?_
 refine aM (fun i e=>∃ t n low o id g c,e=⟨38,none,124,t,[],⟨n,low,o⟩,.no⟩/\t.val 0=.func (.yield l) [] []/\t.val 12=fs/\t.val 13=.int .i64 (m.length:Nat)/\t.val 14=.int .i64 (i:Nat)/\t.val 3=.sl id g 0 (qB vs (m.take i)).length c/\
  o.get id=some (aR g (qB vs (m.take i)))/\(c=.is (qB vs (m.take i)).length∨c=.room 1)/\id<n/\n0<=id/\Old n0 o0 n o/\i<=m.length) (fun i=>m.length-i) 0
  ⟨_,_,_,_,n0,0,.is 1,rfl,aG,aG,aG,eT,eT,?_,.inl rfl,Nat.lt_succ_self _,Nat.le_refl _,zV.2.1 zV.1,Nat.zero_le _⟩ ?_
 ·rw [Tr.get_set_same];rfl
 rintro i _ ⟨t,n,low,o,id,g,c,rfl,t0,I,y,S,t3,C,ah,F,E,p,hi⟩
 rcases Nat.lt_or_ge i m.length with w | V
 ·obtain ⟨f,av,hm,X,_,N,hw,L⟩:=bI (k:=3) (fun x h=>tk_fr.len h) af (show m.length<=9223372036854775807 by omega) w
  obtain ⟨a,b,d,rfl,⟨A,rfl⟩,hb,hd⟩:=av;have ai:=(tu_vals b hb).2;have aj:=(tu_vals d hd).2;have aq:=NX X;have ay:(AV.agg [.int .i64 A,b,d]).fld 1=b:=rfl;have ba:(AV.agg [.int .i64 A,b,d]).fld 2=d:=rfl;rw [ay,ba]at aq
  have G:qB vs (m.take (i+1))=qB vs (m.take i)++[b,d]:=by rw [qB,qB,aq,List.cons_append]
  have U:(qB vs (m.take (i+1))).length=(qB vs (m.take i)).length+2:=by rw [G,List.length_append];rfl
  have bd:(SH (m.take i)).length=i*2:=by rw [JT,List.length_take,Nat.min_eq_left hi]
  have bc:(qB vs (m.take i)).length=i*2+1:=by rw [qB,List.length_cons,bd]
  have ag:(qB vs (m.take i)).all AV.isCell=true:=List.all_eq_true.2 fun x hx=>by
   rcases List.mem_cons.1 hx with rfl | hx
   ·exact al
   ·exact (tu_vals x (NY (fun f hf=>af f (List.mem_of_mem_take hf)) x hx)).2
  have f1:=fX F
  have r:(2*((qB vs (m.take i)).length+2)+1024)*24<=281474976710656/\(qB vs (m.take i)).length+2<4611686018427387904:=by rw [bc];omega
  have ap:(qB vs (m.take i)).length<(qB vs (m.take i)).length+2:=by omega
  rcases ah with rfl | rfl
  ·refine aGk @I @y @S @t3 @N Q.iX @L @hw @ai @aj @C @f1 @gL @TV @LM @ap @ag @r @Nat.mul_one @Nat.zero_add ?_
   refine ⟨i+1,by show _-_<_-_;omega,_,_,_,_,n+1+1,0,.room 1,rfl,aN @t0,aN @I,aN @y,aG,?_,?_,.inr rfl,Nat.lt_succ_self _,by have:=p.1;omega,?_,w⟩
   ·rw [U];exact aG
   ·rw [Tr.get_set_same,G]
   ·exact zV.2.1 (zV.2.1 (zV.2.2.1 p.1 (zV.2.1 p)))
  ·refine LD @I @y @S @t3 @N Q.iX @L @hw @ai @aj @C @f1 @gL @r @Nat.mul_one @Nat.zero_add ?_
   refine ⟨i+1,by show _-_<_-_;omega,_,_,_,_,id,g+1,.room 1,rfl,aN @t0,aN @I,aN @y,aG,?_,?_,.inr rfl,aD,E,?_,w⟩
   ·rw [U];exact aG
   ·rw [Tr.get_set_same,G]
   ·exact zV.2.2.1 E (zV.2.1 (zV.2.2.1 p.1 (zV.2.1 p)))
 ·obtain rfl:i=m.length:=Nat.le_antisymm hi V
  rw [List.take_length]at t3 C;have ak:=h2 id g c (qB vs m) ⟨n,low,o⟩ ((Sto.get_mk F).trans C) q (by rw [qB,List.length_cons,JT];omega) Z;have ar:Sl (bJ (bQ (qB vs m))) (bQ (qB vs m)):=dX aD;refine XK @y @S @t3 @bG @ak ar.lX ?_;have ax:∀ x∈bQ (qB vs m),nP x:=kX q;generalize bQ (qB vs m)=T at *;have ae:J 0 DO ⟨n,low,o⟩:=hJ _ _ _ _ _ (.sim p.sim) ac
  refine aM (fun i e=>∃ t u,e=⟨38,none,124,t,[],u,.no⟩/\t.val 0=.func (.yield l) [] []/\t.val 27=bJ T/\t.val 28=.int .i64 (T.length:Nat)/\t.val 29=.int .i64 (i:Nat)/\i<=T.length/\l<u.n/\J i DO u/\(i=0∨u.low<=l)) (fun i=>T.length-i) 0
   ⟨_,_,rfl,aN @t0,aG,aG,eT,Nat.zero_le _,Nat.lt_of_lt_of_le hl p.1,ae,.inl rfl⟩ ?_
  clear t0 I y S t3 C hi ae ak p F E;rintro i _ ⟨t,⟨n,low,o⟩,rfl,t0,au,aa,ab,hi,be,ad,an⟩
  rcases Nat.lt_or_ge i T.length with w | V
  ·obtain ⟨x,aw,hm,X,_,N,hw,L⟩:=bI (k:=2) (fun x h=>tk_val.len h) ax (show T.length<=9223372036854775807 by omega) w
   obtain ⟨a,b,rfl,⟨A,rfl⟩,⟨R,rfl⟩⟩:=aw;refine XL @t0 @au @aa @ab @N ar.iX @L @gL ?_;have ao:l<n+1:=Nat.lt_succ_of_lt be;have B:=hr i [.agg [.int .i64 A,.int .i64 R]] (by simp [X]) DO ⟨n+1,n.min low,(o.set n (aR 0 [.int .i64 0,.int .i64 0])).set n (aR 0 [.int .i64 A,.int .i64 R])⟩ ao (fun h=>h) (fun _ h=>h.elim) (hJ _ _ _ _ _ (.sim (Old.sim (zV.2.2.1 (Nat.le_refl _) (zV.2.1 zV.1)))) ad)
   refine B.mono fun res hk=>?_
   clear B
   cases res with
   | pan v so=>exact hk.elim
   | ret v so=>
     rw [kK]
     have k:(v=.bool true/\(so.getD ⟨n+1,n.min low,(o.set n (aR 0 [.int .i64 0,.int .i64 0])).set n (aR 0 [.int .i64 A,.int .i64 R])⟩).low<=l/\KeepY DO ⟨n+1,n.min low,(o.set n (aR 0 [.int .i64 0,.int .i64 0])).set n (aR 0 [.int .i64 A,.int .i64 R])⟩ (so.getD ⟨n+1,n.min low,(o.set n (aR 0 [.int .i64 0,.int .i64 0])).set n (aR 0 [.int .i64 A,.int .i64 R])⟩)/\J (i+1) DO (so.getD ⟨n+1,n.min low,(o.set n (aR 0 [.int .i64 0,.int .i64 0])).set n (aR 0 [.int .i64 A,.int .i64 R])⟩))∨
      (v=.bool false/\(so.getD ⟨n+1,n.min low,(o.set n (aR 0 [.int .i64 0,.int .i64 0])).set n (aR 0 [.int .i64 A,.int .i64 R])⟩).low<=l/\D DO (so.getD ⟨n+1,n.min low,(o.set n (aR 0 [.int .i64 0,.int .i64 0])).set n (aR 0 [.int .i64 A,.int .i64 R])⟩)):=by
      cases v with
      | bool b=>cases b with
        | true=>exact .inl ⟨rfl,hk⟩
        | false=>exact .inr ⟨rfl,hk.1,hk.2.2⟩
      | _=>exact hk.elim
     generalize so.getD ⟨n+1,n.min low,(o.set n (aR 0 [.int .i64 0,.int .i64 0])).set n (aR 0 [.int .i64 A,.int .i64 R])⟩=u at *
     rcases k with ⟨rfl,k1,k0,k2⟩ | ⟨rfl,k1,k2⟩
     ·refine NC @ab @hw ?_
      exact ⟨i+1,by show _-_<_-_;omega,_,_,rfl,aN @t0,aN @au,aN @aa,aG,w,Nat.lt_of_lt_of_le ao k0.1,k2,.inr k1⟩
     ·refine AC ?_
      refine ⟨rfl,_,rfl,_,rfl,fun e he hr=>?_⟩;exact mY _ _ e (fun s'=>∃ Y,J T.length Y s'∨D Y s') (fun s s' hs ⟨Y,h⟩=>⟨Y,h.imp (hJ _ _ _ _ _ (.sim hs)) (hD _ _ _ _ (.sim hs))⟩) ⟨DO,.inr (he ▸ k2)⟩ (.inl (he ▸ Nat.lt_of_le_of_lt k1 hl))
  ·obtain rfl:i=T.length:=Nat.le_antisymm hi V
   refine CL @aa @ab @bG ?_;refine ⟨rfl,_,rfl,_,rfl,fun e he hr=>?_⟩;refine mY _ _ e (fun s'=>∃ Y,J T.length Y s'∨D Y s') (fun s s' hs ⟨Y,h⟩=>⟨Y,h.imp (hJ _ _ _ _ _ (.sim hs)) (hD _ _ _ _ (.sim hs))⟩) ⟨DO,.inl (he ▸ ad)⟩ ?_
   rcases an with h | h
   ·exact .inr ⟨DO,.inl (h ▸ ac)⟩
   ·exact .inl (he ▸ Nat.lt_of_le_of_lt h hl)
end
end Go.Proofs.YtdipddlhenoglaaGreat
