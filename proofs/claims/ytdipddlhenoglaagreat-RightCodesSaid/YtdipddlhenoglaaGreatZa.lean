/-
  What is reached, in plain words: depth first, and as a set.
-/
import Derived.Test.YtdipddlhenoglaaGreatPa
set_option linter.unusedVariables false
set_option linter.unusedSimpArgs false
namespace Go.Abs
inductive Run (g:Nat->List Nat):List Bool->List Nat->List Nat->Prop
 | nil (M:List Bool):Run g M [] []
 | skip {M:List Bool} {n:Nat} {t o:List Nat}:M[n]?=some true->Run g M t o->Run g M (n::t) o
 | go {M:List Bool} {n:Nat} {t o:List Nat}:M[n]?=some false->Run g (M.set n true) (g n++t) o->Run g M (n::t) (n::o)
inductive Way (g:Nat->List Nat):Nat->Nat->Prop
 | refl (n:Nat):Way g n n
 | step {a b c:Nat}:b∈g a->Way g b c->Way g a c
variable {g:Nat->List Nat} {M:List Bool} {t o:List Nat}
theorem Way.trans {a b c:Nat} (h:Way g a b) (d:Way g b c):Way g a c:=by
 induction h with
 | refl _=>exact d
 | step e _ f=>exact .step e (f d)
theorem Way.lt {N:Nat} (e:∀ n,∀ y∈g n,y<N) {a b:Nat} (d:a<N) (h:Way g a b):b<N:=by
 induction h with
 | refl _=>exact d
 | step c _ f=>exact f (e _ _ c)
def fX (M:List Bool):Nat:=M.count false
theorem iW {n:Nat} (h:M[n]?=some false):fX (M.set n true)+1=fX M:=by
 unfold fX
 induction M generalizing n with
 | nil=>simp at h
 | cons b M a=>
   cases n with
   | zero=>simp at h;subst h;simp
   | succ n=>
     have:=a (n:=n) (by simpa using h);simp only [List.set_cons_succ,List.count_cons];omega
theorem Run.ex {N:Nat} (r:∀ n,∀ y∈g n,y<N):∀ (k:Nat) (M:List Bool),M.length=N->fX M<=k->∀ t:List Nat,(∀ x∈t,x<N)->∃ o,Run g M t o:=by
 intro k
 induction k with
 | zero=>
   intro M f u t
   induction t with
   | nil=>exact fun _=>⟨[],.nil M⟩
   | cons n t m=>
     intro b
     obtain ⟨o,c⟩:=m fun x d=>b x (List.mem_cons_of_mem _ d)
     have l:n<M.length:=f ▸ b n (List.mem_cons_self ..);have e:M[n]?=some M[n]:=List.getElem?_eq_getElem l
     cases a:M[n] with
     | true=>exact ⟨o,.skip (by rw [e,a]) c⟩
     | false=>have:=iW (by rw [e,a]:M[n]?=some false);omega
 | succ k q=>
   intro M f u t
   induction t with
   | nil=>exact fun _=>⟨[],.nil M⟩
   | cons n t m=>
     intro b;have l:n<M.length:=f ▸ b n (List.mem_cons_self ..);have e:M[n]?=some M[n]:=List.getElem?_eq_getElem l
     cases a:M[n] with
     | true=>
       obtain ⟨o,c⟩:=m fun x d=>b x (List.mem_cons_of_mem _ d)
       exact ⟨o,.skip (by rw [e,a]) c⟩
     | false=>
       have v:=iW (by rw [e,a]:M[n]?=some false)
       obtain ⟨o,c⟩:=q (M.set n true) (by simpa using f) aC (g n++t) fun x d=>by
        rcases List.mem_append.1 d with h | h
        ·exact r _ _ h
        ·exact b x (List.mem_cons_of_mem _ h)
       exact ⟨n::o,.go (by rw [e,a]) c⟩
theorem aFj {n x:Nat} (h:(M.set n true)[x]?=some true):x=n∨M[x]?=some true:=by
 rcases Nat.decEq n x with a | rfl
 ·rw [List.getElem?_set_ne a]at h;exact .inr h
 ·exact .inl rfl
theorem IQ {n x:Nat} (h:(M.set n true)[x]?=some false):x≠n/\M[x]?=some false:=by
 rcases Nat.decEq n x with a | rfl
 ·rw [List.getElem?_set_ne a]at h;exact ⟨fun e=>a e.symm,h⟩
 ·exfalso
  have b:=(List.getElem?_eq_some_iff.1 h).1;rw [List.getElem?_set_self (by simpa using b)]at h;cases h
theorem Run.new (h:Run g M t o):∀ x∈o,M[x]?=some false:=by
 induction h with
 | nil _=>exact fun x a=>nomatch a
 | skip _ _ b=>exact b
 | go c _ b=>
   intro x a
   rcases List.mem_cons.1 a with rfl | a
   ·exact c
   ·exact (IQ (b x a)).2
theorem Run.nodup (h:Run g M t o):o.Nodup:=by
 induction h with
 | nil _=>exact List.nodup_nil
 | skip _ _ a=>exact a
 | go d b a=>exact List.nodup_cons.2 ⟨fun c=>(IQ (b.new _ c)).1 rfl,a⟩
theorem Run.closed (h:Run g M t o):(∀ x∈t,M[x]?=some true∨x∈o)/\∀ x∈o,∀ y∈g x,M[y]?=some true∨y∈o:=by
 induction h with
 | nil _=>exact ⟨fun x a=>(nomatch a),fun x a=>(nomatch a)⟩
 | skip d _ c=>
   refine ⟨fun x a=>?_,c.2⟩
   rcases List.mem_cons.1 a with rfl | a
   ·exact .inl d
   ·exact c.1 x a
 | go d f c=>
   rename_i M n t o
   have b:∀ x,(M.set n true)[x]?=some true∨x∈o->M[x]?=some true∨x∈n::o:=by
    rintro x (a | a)
    ·rcases aFj a with rfl | a
     ·exact .inr (List.mem_cons_self ..)
     ·exact .inl a
    ·exact .inr (List.mem_cons_of_mem _ a)
   refine ⟨fun x a=>?_,fun x a y e=>?_⟩
   ·rcases List.mem_cons.1 a with rfl | a
    ·exact .inr (List.mem_cons_self ..)
    ·exact b x (c.1 x (List.mem_append_right _ a))
   ·rcases List.mem_cons.1 a with rfl | a
    ·exact b y (c.1 y (List.mem_append_left _ e))
    ·exact b y (c.2 x a y e)
theorem Run.way (h:Run g M t o):∀ x∈o,∃ y∈t,Way g y x:=by
 induction h with
 | nil _=>exact fun x a=>nomatch a
 | skip _ _ d=>exact fun x a=>let ⟨y,b,c⟩:=d x a;⟨y,List.mem_cons_of_mem _ b,c⟩
 | go b _ d=>
   intro x a
   rcases List.mem_cons.1 a with rfl | a
   ·exact ⟨x,List.mem_cons_self ..,.refl x⟩
   ·obtain ⟨y,b,c⟩:=d x a
    rcases List.mem_append.1 b with h | h
    ·exact ⟨_,List.mem_cons_self ..,.step h c⟩
    ·exact ⟨y,List.mem_cons_of_mem _ h,c⟩
theorem Run.iff {N:Nat} (h:Run g (List.replicate N false) t o) {x:Nat}:x∈o↔∃ y∈t,Way g y x:=by
 refine ⟨h.way x,?_⟩;rintro ⟨y,d,f⟩
 have b:∀ z,(List.replicate N false)[z]?=some true∨z∈o->z∈o:=by
  rintro z (a | a)
  ·rw [List.getElem?_replicate]at a;split at a<;>cases a
  ·exact a
 have c:=h.closed;have:=b y (c.1 y d);clear d
 induction f with
 | refl _=>exact this
 | step e _ k=>exact k (b _ (c.2 _ this _ e))
theorem XI {l:List Nat} (b:∀ x∈t,x∈l) (c:∀ x∈l,∀ y∈g x,y∈l) {x:Nat} (e:∃ y∈t,Way g y x):x∈l:=by
 obtain ⟨y,a,d⟩:=e;have:=b y a;clear a
 induction d with
 | refl _=>exact this
 | step h _ f=>exact f (c _ this _ h)
theorem TD {o:List Nat} (f:o.Nodup) {N:Nat} {p:Nat->Bool} (h:∀ x,x∈o↔x<N/\p x=true):
 (o.map fun n:Nat=>(n:Int)).mergeSort (fun x y=>decide (x<=y))=((List.range N).filter p).map fun n:Nat=>(n:Int):=by
 have m:=List.pairwise_mergeSort (le:=fun x y:Int=>decide (x<=y)) (fun a b c d e=>by simp at d e ⊢;omega) (fun a b=>by simp;omega) (o.map fun n:Nat=>(n:Int))
 have k:=List.mergeSort_perm (o.map fun n:Nat=>(n:Int)) fun x y=>decide (x<=y)
 have l:o.Perm ((List.range N).filter p):=(List.perm_ext_iff_of_nodup f (List.nodup_range.filter _)).2 fun x=>by
  rw [h x,List.mem_filter,List.mem_range]
 refine (k.trans (l.map _)).eq_of_pairwise (le:=fun x y:Int=>x<=y) (fun a b _ _ d e=>Int.le_antisymm d e) (m.imp fun h=>by simpa using h) ?_;rw [List.pairwise_map]
 exact (List.pairwise_lt_range.filter _).imp fun h=>by omega
end Go.Abs
/-
 The abstract machine: ranges over a function that keeps objects of its own,and turns them between its rounds.
-/
namespace Go.Abs
noncomputable section
variable {P:Program} {O:cH} {H:dG}
def DY:Nat->Prop:=fun _=>False
def StepX (Z Y b:Nat->Prop) (u a:Sto):Prop:=(∀ id,Y id->b id)/\(∀ id,b id->Y id∨u.n<=id/\id<a.n)/\u.n<=a.n/\∀ id,id<u.n->¬ Y id->¬ Z id->a.get id=u.get id
def nJ (Y:Nat->Prop) (u a:Sto):Prop:=u.n<=a.n/\∀ id,Y id->a.get id=u.get id
theorem StepX.sim {Z Y:Nat->Prop} {u b:Sto} (h:Sim u b):StepX Z Y Y u b:=⟨fun _ h=>h,fun _ h=>.inl h,h.1,fun id a _ _=>h.2 id a⟩
theorem StepX.z {Z Y a:Nat->Prop} {u b:Sto} (h:StepX DY Y a u b):StepX Z Y a u b:=⟨h.1,h.2.1,h.2.2.1,fun id c d _=>h.2.2.2 id c d fun h=>h⟩
theorem StepX.get {Z Y c:Nat->Prop} {u e:Sto} (h:StepX Z Y c u e) {id:Nat} {x:AObj} (b:u.get id=some x) (d:¬ Y id) (k:¬ Z id):e.get id=some x/\¬ c id:=
 ⟨(h.2.2.2 id (Sto.get_lt b) d k).trans b,fun f=>(h.2.1 id f).elim d fun a=>Nat.lt_irrefl _ (Nat.lt_of_lt_of_le (Sto.get_lt b) a.1)⟩
theorem StepX.trans {Z Y k d:Nat->Prop} {a b c:Sto} (h:StepX Z Y k a b) (e:StepX Z k d b c):StepX Z Y d a c:=
 ⟨fun id x=>e.1 id (h.1 id x),fun id x=>(e.2.1 id x).elim (fun y=>(h.2.1 id y).imp (fun y=>y) fun y=>⟨y.1,Nat.lt_of_lt_of_le y.2 e.2.2.1⟩) fun y=>.inr ⟨Nat.le_trans h.2.2.1 y.1,y.2⟩,Nat.le_trans h.2.2.1 e.2.2.1,
  fun id f l m=>(e.2.2.2 id (Nat.lt_of_lt_of_le f h.2.2.1) (fun y=>(h.2.1 id y).elim l fun y=>Nat.lt_irrefl _ (Nat.lt_of_lt_of_le f y.1)) m).trans (h.2.2.2 id f l m)⟩
def rX (l:Nat) (J:Nat->(Nat->Prop)->Sto->Prop) (D:(Nat->Prop)->Sto->Prop) (i:Nat) (Y:Nat->Prop) (s:Sto):CRes->Prop
 | .ret (.bool true) a=>(a.getD s).low<=l/\nJ Y s (a.getD s)/\J (i+1) Y (a.getD s)
 | .ret (.bool false) a=>(a.getD s).low<=l/\nJ Y s (a.getD s)/\D Y (a.getD s)
 | _=>False
def aTj (n:Nat) (J:Nat->(Nat->Prop)->Sto->Prop) (D:(Nat->Prop)->Sto->Prop) (s:Sto):CRes->Prop
 | .ret _ a=>∃ Y,J n Y (a.getD s)∨D Y (a.getD s)
 | .pan _ _=>False
def aFk (P:Program) (O:cH) (b:AV):Prop:=∀ n args s v a rr,aR P O n b args s .no=some (.ret v a,rr)->(a.getD s).low<=s.low
theorem TE {s:Sto} {v:AV} {e:Env}:((cO s v e).getD s).low<=s.low:=by
 unfold cO
 cases (Nat.ble s.n e.s.low&&(v.under s.n 100&&GR s.n e.r)) with
 | true=>exact Nat.le_refl _
 | false=>exact Nat.min_le_left _ _
theorem DZ {s:Sto} {x:Option (LRes × Env)} {v:AV} {a:Option Sto} {c:ARec} (h:vL s x=some (.ret v a,c)):(a.getD s).low<=s.low:=by
 obtain ⟨b,e',rfl,h⟩:=qF h
 cases b with
 | ret w=>
   simp only [vL,Option.some.injEq,Prod.mk.injEq,CRes.ret.injEq]at h;obtain ⟨⟨rfl,rfl⟩,_⟩:=h;exact TE
 | pan w=>simp [vL]at h
theorem BC {g:FuncId} {first cap:List AV} (h:∀ a σ,O g a σ=none):aFk P O (.func (.func g) first cap):=by
 intro n args s v f e b
 cases n with
 | zero=>cases b
 | succ n=>
   have d:GS O (.func (.func g) first cap) args s .no=none:=h _ _;simp only [aR,d,gV]at b;unfold oW at b
   cases c:okFn P g with
   | false=>rw [c]at b;cases b
   | true=>
     rw [c]at b;simp only [cond_true]at b;split at b
     ·split at b
      ·split at b
       ·exact DZ b
       ·exact DZ b
       ·exact DZ b
       ·cases b
      ·cases b
     ·cases b
def BD (P:Program) (O:cH) (c:AV) (xs:List (List AV)):Prop:=aFk P O c/\∀ (l:Nat) (J:Nat->(Nat->Prop)->Sto->Prop) (D:(Nat->Prop)->Sto->Prop) (s:Sto),l<s.n->
 (∀ i Y a u b,StepX DY Y a u b->J i Y u->J i a b)->(∀ Y a u b,StepX DY Y a u b->D Y u->D a b)->J 0 DY s->
 (∀ i x,xs[i]?=some x->∀ Y u,l<u.n->¬ Y l->(∀ id,Y id->id<u.n)->J i Y u->Wcall P O (.func (.yield l) [] []) x u (rX l J D i Y u))->
 Wcall P O c [.func (.yield l) [] []] s (aTj xs.length J D s)
theorem sQ {xs:List (List AV)} {f:Operand} {ps:Array Tmp} {a b:Code} {m:Nat} {fn:FuncId} {t:Tr AV} {ds:List ADef} {s:Sto} {r:ARec} {Q:Ex->Env->Prop} (J:Nat->(Nat->Prop)->Sto->Prop) (E:Code->(Nat->Prop)->Sto->Prop)
 (hI:BD P O ((Env.mk m none fn t ds s r).eval f) xs)
 (hJ:∀ i Y y u d,StepX (fun id=>id=s.n+1) Y y u d->J i Y u->J i y d) (hE:∀ c Y y u d,StepX (fun id=>id=s.n+1) Y y u d->E c Y u->E c y d)
 (hc:∀ c Y u,E c Y u->c=.ret∨∃ id,c=.exit id)
 (h0:J 0 DY s)
 (hr:∀ i x,xs[i]?=some x->∀ Y (u:Sto),s.n+1<u.n->¬ Y s.n->¬ Y (s.n+1)->(∀ id,Y id->id<u.n)->u.get s.n=some (.defs (some []))->u.get (s.n+1)=some (.loop .ready none fn m t ps.toList a b s.n)->J i Y u->
   ∃ t',vX m t ps.toList x=some t'/\Wk P O H a ⟨m,some (s.n+1),fn,t',[],⟨u.n,u.n,u.o⟩,.no⟩
     (jO P O H (s.n+1) (fun st p=>.loop st p fn m t ps.toList a b s.n) b (iS P (s.n+1) (fun st p=>.loop st p fn m t ps.toList a b s.n) (fun i d=>(nJ Y u d/\J i Y d)/\d.get s.n=some (.defs (some []))) (fun c d=>(nJ Y u d/\E c Y d)/\d.get s.n=some (.defs (some []))) (fun _ _=>False) i)))
 (aa:∀ Y (u:Sto),s.n+1<u.n->u.low<=s.low->u.get s.n=some (.defs (some []))->J xs.length Y u->Q .normal ⟨m,none,fn,t,.collected s.n::ds,u,r⟩)
 (ad:∀ Y (u:Sto),s.n+1<u.n->u.low<=s.low->u.get s.n=some (.defs (some []))->E .ret Y u->Q .ret ⟨m,none,fn,t,.collected s.n::ds,u,r⟩)
 (S:∀ id Y (u:Sto),s.n+1<u.n->u.low<=s.low->u.get s.n=some (.defs (some []))->E (.exit id) Y u->Q (.exit id) ⟨m,none,fn,t,.collected s.n::ds,u,r⟩):
 Wk P O H (.rangeFunc f ps a b) ⟨m,none,fn,t,ds,s,r⟩ Q:=by
 let lo:LoopState->Option Code->AObj:=fun st p=>.loop st p fn m t ps.toList a b s.n
 let s1:=s.push (.defs (some []))
 let q:=s1.push (lo .ready none)
 let Z:Nat->Prop:=fun id=>id=s.n+1
 let B:(Nat->Prop)->Sto->Prop:=fun Y u=>s.n+1<u.n/\¬ Y s.n/\¬ Y (s.n+1)/\u.get s.n=some (.defs (some []))
 let J':Nat->(Nat->Prop)->Sto->Prop:=fun i Y u=>B Y u/\u.get (s.n+1)=some (lo .ready none)/\J i Y u
 let D':(Nat->Prop)->Sto->Prop:=fun Y u=>B Y u/\∃ c,u.get (s.n+1)=some (lo .done (some c))/\E c Y u
 have hB:∀ Y y u d,StepX Z Y y u d->¬ y (s.n+1)->B Y u->B y d:=fun Y y u d F hl ⟨k1,k2,k3,k4⟩=>by
  obtain ⟨U,V⟩:=F.get k4 k2 (by show ¬ s.n=s.n+1;omega);exact ⟨Nat.lt_of_lt_of_le k1 F.2.2.1,V,hl,U⟩
 have R:∀ (Y:Nat->Prop) (u:Sto) k,StepX Z Y Y u {u with low:=k}:=fun Y u k=>.sim (Sim.low u k)
 have l:∀ (Y:Nat->Prop) (u:Sto) x,StepX Z Y Y u (u.put (s.n+1) x):=fun Y u x=>⟨fun _ h=>h,fun _ h=>.inl h,Nat.le_refl _,fun id I _ hz=>(SimX.put u (s.n+1) x).2 id I hz⟩
 have e0:q.get s.n=some (.defs (some [])):=by
  rw [Sto.get_push_lt _ _ (Nat.lt_succ_self _)];exact Sto.get_push_same _ _
 have e1:q.get (s.n+1)=some (lo .ready none):=Sto.get_push_same s1 _;have ac:s.n+1<q.n:=Nat.lt_succ_self _
 obtain ⟨n,res,rr,A,hK⟩:=hI.2 (s.n+1) J' D' q ac
  (fun i Y y u d F ⟨k1,k2,k3⟩=>by
    obtain ⟨U,V⟩:=F.get k2 k1.2.2.1 (fun h=>h)
    exact ⟨hB _ _ _ _ F.z V k1,U,hJ _ _ _ _ _ F.z k3⟩)
  (fun Y y u d F ⟨k1,c,k2,k3⟩=>by
    obtain ⟨U,V⟩:=F.get k2 k1.2.2.1 (fun h=>h)
    exact ⟨hB _ _ _ _ F.z V k1,c,U,hE _ _ _ _ _ F.z k3⟩)
  ⟨⟨ac,fun h=>h,fun h=>h,e0⟩,e1,hJ 0 DY DY s q (.sim ((Sim.push _ _).trans (Sim.push _ _))) h0⟩
  (fun i x hx Y u hu G ae ⟨⟨k0,k1,_,k2⟩,k3,k4⟩=>by
    obtain ⟨t',ht,hw⟩:=hr i x hx Y u k0 k1 G ae k2 k3 k4
    have ab:∀ e:Sto,nJ Y u e->∀ x k,nJ Y u {e.put (s.n+1) x with low:=k}:=fun e L x k=>⟨L.1,fun id I=>by
     have ag:id≠s.n+1:=fun h=>G (h ▸ I)
     exact (Sto.get_put_ne e x ag).trans (L.2 id I)⟩
    have hy:=BR (H:=H) (J:=fun i d=>(nJ Y u d/\J i Y d)/\d.get s.n=some (.defs (some []))) (E:=fun c d=>(nJ Y u d/\E c Y d)/\d.get s.n=some (.defs (some []))) (X:=fun _ _=>False)
     (J':=fun i d=>nJ Y u d/\J' i Y d) (D:=fun d=>nJ Y u d/\D' Y d) k3 ht ?_ ?_ (fun _ _ _ h=>h) hw
    ·refine hy.mono fun res N=>?_
     cases res with
     | pan v w=>exact N.2.elim
     | ret v w=>
       cases v with
       | bool b=>cases b with
         | true=>exact ⟨N.1,N.2.2.1,N.2.2.2⟩
         | false=>exact ⟨N.1,N.2.1,N.2.2⟩
       | _=>exact N.elim
    ·rintro e L k ⟨⟨q2,q3⟩,q1⟩
     have C:=(l Y e (lo .ready none)).trans (R Y _ k);refine ⟨ab e q2 _ k,⟨L,k1,G,?_⟩,(Sim.low _ k).get (Sto.get_put_same _ _ L),hJ _ _ _ _ _ C q3⟩;exact (C.get q1 k1 (by show ¬ s.n=s.n+1;omega)).1
    ·rintro e c L k ⟨⟨q2,q3⟩,q1⟩
     have C:=(l Y e (lo .done (some c))).trans (R Y _ k);refine ⟨ab e q2 _ k,⟨L,k1,G,?_⟩,c,(Sim.low _ k).get (Sto.get_put_same _ _ L),hE _ _ _ _ _ C q3⟩
     exact (C.get q1 k1 (by show ¬ s.n=s.n+1;omega)).1)
 show W P O (.rangeFunc f ps a b) ⟨m,none,fn,t,ds,s,r⟩ Q
 cases res with
 | pan v w=>exact hK.elim
 | ret v w=>
 have af:(w.getD q).low<=s.low:=hI.1 _ _ _ _ _ _ A
 have hd:∀ x,dB ⟨m,none,fn,t,ds,s,r⟩ (.collected s.n::ds) (s.n+1) (w.getD q)=some x->bE P (aR P O n) n (.rangeFunc f ps a b) ⟨m,none,fn,t,ds,s,r⟩=some x:=by
  intro x hx
  show (match aR P O n ((Env.mk m none fn t ds s r).eval f) [.func (.yield (s.n+1)) [] []] q .no with
   | some (.ret _ w,_)=>dB ⟨m,none,fn,t,ds,s,r⟩ (.collected s.n::ds) (s.n+1) (match w with | some s=>s | none=>q)
   | some (.pan v w,_)=>some (.panic v,{(Env.mk m none fn t ds s r) with s:=(match w with | some s=>s | none=>q),ds:=.collected s.n::ds})
   | none=>none)=some x
  rw [A];cases w<;>exact hx
 have T:∀ x:AObj,((w.getD q).put (s.n+1) x).low<=s.low:=fun x=>by
  rw [Sto.low_put];exact Nat.le_trans (Nat.min_le_right _ _) af
 obtain ⟨Y,hK⟩:=hK
 rcases hK with ⟨⟨k0,k1,ah,k2⟩,k3,k4⟩ | ⟨⟨k0,k1,ah,k2⟩,c,k3,k4⟩
 ·exact ⟨n,.normal,_,hd _ (by simp only [dB,k3,lo]),aa Y ((w.getD q).put (s.n+1) (lo .exhausted none)) k0 (T _) (((l Y _ _).get k2 k1 (by show ¬ s.n=s.n+1;omega)).1) (hJ _ _ _ _ _ (l Y _ _) k4)⟩
 ·rcases hc c _ _ k4 with rfl | ⟨id,rfl⟩
  ·exact ⟨n,.ret,_,hd _ (by simp only [dB,k3,lo]),ad Y ((w.getD q).put (s.n+1) (lo .exhausted (some .ret))) k0 (T _) (((l Y _ _).get k2 k1 (by show ¬ s.n=s.n+1;omega)).1) (hE _ _ _ _ _ (l Y _ _) k4)⟩
  ·exact ⟨n,.exit id,_,hd _ (by simp only [dB,k3,lo]),S id Y ((w.getD q).put (s.n+1) (lo .exhausted (some (.exit id)))) k0 (T _) (((l Y _ _).get k2 k1 (by show ¬ s.n=s.n+1;omega)).1) (hE _ _ _ _ _ (l Y _ _) k4)⟩
end
end Go.Abs
namespace Go.Abs
noncomputable section
variable {P:Program} {O:cH}
def clC (s:Sto) (K:CRes->Prop) (S:Sto) (r:AV):Prop:=∀ e:Env,e.s=S->e.r=.no->K (.ret r (cO s r e))
theorem nA {g:FuncId} {first cap args:List AV} {s:Sto} {K:CRes->Prop} {fn:Func} {c:Code} {N:Nat} {f:List ResultVar} (H:dG) (B:O g (first++args++cap) s=none) (b:okFn P g=true) (y:P.funcs[g]?=some fn) (A:fn.ntmps=N) (C:fn.results=f.toArray) (v:fn.body=some c)
 (u:Nat.ble (first++args++cap).length N=true) (h:Wk P O H c ⟨N,none,g,Tr.leaf.lay 0 (first++args++cap),[],⟨s.n,s.n,s.o⟩,.no⟩ (aLr P f (clC s K))):Wcall P O (.func (.func g) first cap) args s K:=by
 refine AI B b y v ?_;have w:MI fn g (first++args++cap) s .no=⟨N,none,g,Tr.leaf.lay 0 (first++args++cap),[],⟨s.n,s.n,s.o⟩,.no⟩:=gN A u;rw [w]
 refine h.sound.mono fun ex e d=>?_
 have a:(e.r=.no/\∃ S,gG e.s e.ds=some S/\GV (aZ P {e with ds:=[],s:=S} f) (clC s K) S)->Lv P O fn none e (clR s fun res _=>K res):=by
  rintro ⟨k,S,l,vs,m,q⟩;refine YG _ e S rfl l (tR rfl (by rw [C];exact m) ?_);exact q _ rfl k
 cases ex with
 | normal=>exact a d
 | ret=>exact a d
 | _=>exact d.elim
theorem TF {s:Sto} {v:AV} {e:Env} (h:v.under s.n 100=false):cO s v e=some {e.s with low:=Nat.min s.low e.s.low}:=by simp [cO,h]
end
end Go.Abs
/-
 Values: mH of values,joined.
-/
namespace Go.Abs
noncomputable section
theorem xM {k:Nat} {a:AV} {xs:List AV} (h:Sl a xs) (b:∀ x∈xs,x.cells.length=k/\x.cells.all AV.isCell=true) {s:Sto}:QF s k a=some (xs.length,(xs.map AV.cells).flatten):=by
 rcases h.1 with ⟨rfl,rfl⟩ | ⟨c,rfl⟩
 ·rfl
 ·rw [aRb b,<-List.flatMap_def]
theorem aFl {s:Sto} {k by_ id g len c n:Nat} {F z new:List AV} (m:s.get id=some (aQ g (F++z))) (u:F.length=len*k) (d:(F++z).length=c*k) (b:len+n<=c) (w:new.length=n*k) (y:(2*c+1024)*by_<=281474976710656/\c<4611686018427387904):
 ∃ g' z',apF s k by_ (.sl id g 0 len (cT k len c)) (some (n,new))=some (.val' (.sl id g' 0 (len+n) (cT k (len+n) c)) (s.put id (aQ g' ((F++new)++z'))))/\((F++new)++z').length=c*k:=by
 by_cases l:len=c
 ·subst l
  obtain rfl:n=0:=by omega
  obtain rfl:new=[]:=List.eq_nil_of_length_eq_zero aC;refine ⟨g+1,z,?_,by simpa using d⟩;rw [tM,tS,m,yH d (by simp) (by simpa using y)];simp [tM]
 ·have v:Nat.beq len c=false:=by
   cases h:Nat.beq len c with
   | false=>rfl
   | true=>exact absurd (Nat.eq_of_beq_eq_true h) l
  have q:Nat.ble (len+n) c=true:=by simpa using b
  have r:len*k+n*k<=c*k:=by rw [<-Nat.add_mul];exact Nat.mul_le_mul_right k b
  have e:len*k+new.length<=(F++z).length:=by rw [w,d];exact r
  have f:cA (F++z) (len*k) new=(F++new)++z.drop new.length:=by
   rw [cA,<-u,List.take_left,List.drop_append,List.drop_of_length_le aC];simp
  refine ⟨g,z.drop new.length,?_,?_⟩
  ·simp only [cT,v,cond_false,apF,q,cond_true,m,aQ,Nat.beq_refl,Bool.and_self,Nat.zero_add]
   rw [Tr.lay_lay _ _ _ e,f]
   have:(F++z).length=((F++new)++z.drop new.length).length:=by rw [<-f,eK _ _ _ e]
   have a:Nat.ble (c*k) (F++z).length=true:=by rw [d];simp
   rw [this]at a;rw [this,a];rfl
  ·rw [<-f,eK _ _ _ e];exact d
end
end Go.Abs
namespace Go.Proofs.YtdipddlhenoglaaGreat
open Go.Abs Go Go.Abs.TryzF
noncomputable section
set_option maxRecDepth 10000
def bZ (ls:List AV):List AV:=(ls.map AV.els).flatten
theorem zT {ls:List AV} {i:Nat} {x:AV} (h:ls[i]?=some x):bZ (ls.take (i+1))=bZ (ls.take i)++x.els:=by
 simp [bZ,List.take_add_one,h]
theorem KO {ls:List AV} (i:Nat):(bZ (ls.take i)).length<=(bZ ls).length:=by
 have:bZ ls=bZ (ls.take i)++bZ (ls.drop i):=by rw [bZ,bZ,bZ,<-List.flatten_append,<-List.map_append,List.take_append_drop]
 rw [this,List.length_append];omega
theorem iC {ls:List AV} (h:∀ x∈ls,lP x):∀ y∈bZ ls,tJ y:=fun y a=>by
 obtain ⟨l,d,a⟩:=List.mem_flatten.1 a;obtain ⟨x,e,rfl⟩:=List.mem_map.1 d;obtain ⟨xs,b,c⟩:=h x e;rw [b.els]at a;exact c y a
theorem aWe {s:Sto} {n:Nat} (f:n≠0) (h:n<=100000):aY Tryz.prog s .append [59,3].toArray [.nils,.int .i64 (n:Nat)]=some (.val' (.sl s.n 0 0 n (.room 2)) (s.push (ob (cQ [.int .i64 0,.int .i64 0] n)))):=by
 have a:Nat.blt 0 n=true:=by simp;omega
 have b:∀ by_,by_=16->fR s 2 by_ [] (cQ [.int .i64 0,.int .i64 0] n) n=some (.val' (.sl s.n 0 0 n (.room 2)) (s.push (ob (cQ [.int .i64 0,.int .i64 0] n)))):=fun by_ e=>by
  subst e;simp only [fR,uU (n:=n) (by_:=16) aC,cond_true,List.nil_append,rM,AP (cs:=[.int .i64 0,.int .i64 0]) rfl n,if_true]
 have c:aY Tryz.prog s .append [59,3].toArray [.nils,.int .i64 (n:Nat)]=uG Tryz.prog s 59 .nils (.int .i64 (.ofNat n)):=rfl;have d:uG Tryz.prog s 59 .nils (.int .i64 (.ofNat n))=bif Nat.blt 0 n&&(Nat.beq 2 2&&Nat.blt 0 2) then fR s 2 16 [] (cQ [.int .i64 0,.int .i64 0] n) n else none:=rfl;rw [c,d,a];exact b 16 rfl
theorem aTk {s:Sto}:aY Tryz.prog s .cap [59].toArray [.nils]=some (.val (.int .i64 0)):=rfl
theorem slN:dQ Tryz.prog 59 .nils none (some (.int .i64 0)) none=some .nils:=rfl
theorem slZ {id g n:Nat} (h:0<n):dQ Tryz.prog 59 (.sl id g 0 n (.room 2)) none (some (.int .i64 0)) none=some (.sl id g 0 0 (cT 2 0 n)):=by
 show FH (some 2) (.sl id g 0 n (.room 2)) none (some (.int .i64 0)) none none=_;exact UU (Int.le_refl 0) aC h
theorem aTl {s:Sto} {n:Nat} (a:n≠0) (b:n<=100000):apC none s .nils (.int .i64 (n:Nat)) (qC Tryz.prog s .append [59,3].toArray [.nils,.int .i64 (n:Nat)])=some (.val' (.sl s.n 0 0 n (.room 2)) (s.push (ob (cQ [.int .i64 0,.int .i64 0] n)))):=aWe a b
set_option maxHeartbeats 1000000 in
theorem aFm {O:cH} (v:∀ a s,O 180 a s=none) {n:Nat} (u:n<=100000) {s:Sto} {K:CRes->Prop} (q:n=0->K (.ret .nils none))
 (r:0<n->K (.ret (.sl s.n 0 0 0 (cT 2 0 n)) (some ⟨s.n+1,Nat.min s.low s.n,s.o.set s.n (ob (cQ [.int .i64 0,.int .i64 0] n))⟩))):
 Wcall Tryz.prog O (.func (.func 180) [] []) [.nils,.int .i64 (n:Nat)] s K:=by
 refine nA (first:=[]) (cap:=[]) aN (v _ _) (by kernel_rfl) Tryz.func180 Tryz.ntmps180 Tryz.results180 rfl rfl ?_;obtain ⟨b,low,o⟩:=s;have k1:(((n:Nat):Int)<0)=False:=eq_false aC
 have m:IntKind.i64.wrap (((n:Nat):Int)-IntKind.i64.wrap (0-0))=((n:Nat):Int):=by rw [show IntKind.i64.wrap (0-0)=0 from rfl,Int.sub_zero];exact IntWalk.i64_in _ aC
 rcases Nat.eq_zero_or_pos n with w | k
 ·subst w
  refine JA @aTk @m ?_;refine ⟨rfl,_,rfl,_,rfl,fun e c l=>?_⟩;rw [lR (by rw [c];exact Nat.le_refl _) rfl l];exact q rfl
 ·have f:n≠0:=by omega
  have k2:(0<((n:Nat):Int))=True:=eq_true aC;refine rA @k1 @k2 @m @aTk @slN @slZ @k @aTl @u @f ?_;refine ⟨rfl,_,rfl,[.sl b 0 0 0 (cT 2 0 n)],rfl,fun e c l=>?_⟩
  have d:(AV.sl b 0 0 0 (cT 2 0 n)).under b 100=false:=Bool.eq_false_iff.2 fun h=>Nat.lt_irrefl b (Nat.le_of_ble_eq_true h)
  show K (.ret (AV.sl b 0 0 0 (cT 2 0 n)) (cO ⟨b,low,o⟩ (AV.sl b 0 0 0 (cT 2 0 n)) e));rw [TF d,c];exact r k
def aPz (args:List AV) (s:Sto) (res:CRes):Prop:=∃ id g c ls,args=[.sl id g 0 ls.length c]/\s.get id=some (aQ g ls)/\res=.ret (dR (bZ ls)) none/\bO Tryz.prog 125 args s res
set_option maxHeartbeats 4000000 in
theorem aAl {id g:Nat} {c:ACap} {ls:List AV} {s:Sto} (T:s.get id=some (aQ g ls)) (U:∀ x∈ls,lP x) (hl:ls.length<=1000) (hc:(bZ ls).length<=100000):∃ res,aPz [.sl id g 0 ls.length c] s res:=by
 refine ⟨_,id,g,c,ls,rfl,T,rfl,?_⟩;refine zV (L:=[]) aE aN (by kernel_rfl) Tryz.func125 Tryz.ntmps125 Tryz.results125 rfl rfl ?_;obtain ⟨n0,ak,o0⟩:=s;have aa:id<n0:=Sto.get_lt T;rw [Sto.get_mk aa]at T;have f0:=dO aa;refine zI ?_
 refine aL (fun i e=>∃ t,e=⟨36,none,125,t,[],⟨n0,n0,o0⟩,.no⟩/\t.val 0=.sl id g 0 ls.length c/\t.val 9=.sl id g 0 ls.length c/\t.val 10=.int .i64 (ls.length:Nat)/\t.val 11=.int .i64 (i:Nat)/\t.val 3=.int .i64 ((bZ (ls.take i)).length:Nat)/\i<=ls.length) (fun i=>ls.length-i) 0
  ⟨_,rfl,aG,aG,aG,eA,eA,Nat.zero_le _⟩ ?_
 rintro i _ ⟨t,rfl,t0,t9,B,F,t3,Q⟩
 rcases Nat.lt_or_ge i ls.length with m | A
 ·obtain ⟨x,f,hm,l,_,ab,hw,w⟩:=bB (k:=1) (fun x h=>tu_vals.len h) U (show ls.length<=9223372036854775807 by omega) m
  have X:=(tu_vals x f).2;obtain ⟨xs,d,I⟩:=f;have q:=zT l;have u:=KO (ls:=ls) (i+1);rw [q,List.length_append,d.els]at u
  have ah:IntKind.i64.wrap ((((bZ (ls.take i)).length:Nat):Int)+((xs.length:Nat):Int))=(((bZ (ls.take (i+1))).length:Nat):Int):=by
   rw [q,List.length_append,d.els,IntWalk.i64_in _ aC];rfl
  have k1:((((bZ (ls.take (i+1))).length:Nat):Int)<0)=False:=eq_false aC;have k2:(0<=((i:Nat):Int))=True:=eq_true aC;refine AC @t9 @B @F @t3 @T @f0 @w @l @hw @ah @k1 @k2 d.lX @Int.toNat_natCast @Nat.mul_one @Nat.zero_add ?_;exact ⟨i+1,by show _-_<_-_;omega,_,rfl,aM @t0,aM @t9,aM @B,aG,aG,m⟩
 ·obtain rfl:i=ls.length:=Nat.le_antisymm Q A
  refine CT @B @F @t3 @bH ?_;rw [List.take_length];refine (kW (first:=[]) (cap:=[])).1 (aFm (fun _ _=>rfl) hc (fun h0=>?_) fun hp=>?_)
  ·rw [JJ]
   have ac:bZ ls=[]:=List.eq_nil_of_length_eq_zero h0;refine wU @t0 ?_
   refine aL (fun i e=>∃ t,e=⟨36,none,125,t,[],⟨n0,n0,o0⟩,.no⟩/\t.val 25=.sl id g 0 ls.length c/\t.val 26=.int .i64 (ls.length:Nat)/\t.val 27=.int .i64 (i:Nat)/\t.val 6=.nils/\i<=ls.length) (fun i=>ls.length-i) 0
    ⟨_,rfl,aG,aG,eA,aG,Nat.zero_le _⟩ ?_
   clear t0 t9 B F t3 Q;rintro i _ ⟨t,rfl,C,r,D,t6,Q⟩
   rcases Nat.lt_or_ge i ls.length with m | A
   ·obtain ⟨x,f,hm,l,_,ab,hw,w⟩:=bB (k:=1) (fun x h=>tu_vals.len h) U (show ls.length<=9223372036854775807 by omega) m
    have X:=(tu_vals x f).2;obtain ⟨xs,d,I⟩:=f;have u:=KO (ls:=ls) (i+1);rw [zT l,List.length_append,d.els,h0]at u;obtain rfl:xs=[]:=List.eq_nil_of_length_eq_zero aC;have k2:(0<=((i:Nat):Int))=True:=eq_true aC
    have J:∀ {low:Nat},QF ⟨n0,low,o0⟩ 2 x=some (0,[]):=fun {low}=>xM d (fun _ h=>(nomatch h))
    refine wV @C @r @D @t6 @T @f0 @w @l @hw @k2 @J @AJ @Int.toNat_natCast @Nat.mul_one @Nat.zero_add ?_;exact ⟨i+1,by show _-_<_-_;omega,_,rfl,aM @C,aM @r,aG,aG,m⟩
   ·obtain rfl:i=ls.length:=Nat.le_antisymm Q A
    refine CT @r @D @t6 @bH ?_;refine ⟨rfl,_,rfl,?_⟩;refine zI ?_;rw [ac];exact .und _ fB
  ·rw [FU]
   refine wU @t0 ?_;have ai:((cQ [.int .i64 0,.int .i64 0] (bZ ls).length:List AV)).length=(bZ ls).length*2:=GI _
   refine aL (fun i e=>∃ t low o g' z,e=⟨36,none,125,t,[],⟨n0+1,low,o⟩,.no⟩/\t.val 25=.sl id g 0 ls.length c/\t.val 26=.int .i64 (ls.length:Nat)/\t.val 27=.int .i64 (i:Nat)/\t.val 6=.sl n0 g' 0 (bZ (ls.take i)).length (cT 2 (bZ (ls.take i)).length (bZ ls).length)/\
    o.get id=some (aQ g ls)/\o.get n0=some (aQ g' (((bZ (ls.take i)).map AV.cells).flatten++z))/\(((bZ (ls.take i)).map AV.cells).flatten++z).length=(bZ ls).length*2/\n0<=low/\i<=ls.length) (fun i=>ls.length-i) 0
    ⟨_,_,_,0,cQ [.int .i64 0,.int .i64 0] (bZ ls).length,rfl,aG,aG,eA,eA,?_,?_,by simpa [bZ] using ai,?_,Nat.zero_le _⟩ ?_
   ·exact ag2 @f0 @T
   ·rw [Tr.get_set_same];simp [bZ]
   ·exact Nat.le_min.2 ⟨Nat.le_refl _,Nat.le_refl _⟩
   clear t0 t9 B F t3 Q;rintro i _ ⟨t,low,o,g',z,rfl,C,r,D,t6,Z,E,N,G,Q⟩
   have ae:∀ y∈bZ (ls.take i),tJ y:=iC fun x R=>U x (List.mem_of_mem_take R)
   have Y:((bZ (ls.take i)).map AV.cells).flatten.length=(bZ (ls.take i)).length*2:=by
    have:=gL (k:=2) ((bZ (ls.take i)).map AV.cells) fun x R=>by obtain ⟨y,S,rfl⟩:=List.mem_map.1 R;exact tk_val.len (ae y S)
    rw [this,List.length_map]
   rcases Nat.lt_or_ge i ls.length with m | A
   ·obtain ⟨x,f,hm,l,_,ab,hw,w⟩:=bB (k:=1) (fun x h=>tu_vals.len h) U (show ls.length<=9223372036854775807 by omega) m
    have X:=(tu_vals x f).2;obtain ⟨xs,d,I⟩:=f;have u:=KO (ls:=ls) (i+1);have q:=zT l;rw [q,List.length_append,d.els]at u;have k2:(0<=((i:Nat):Int))=True:=eq_true aC;have V:∀ y∈xs,y.cells.length=2/\y.cells.all AV.isCell=true:=sU tk_val I
    have J:∀ {low:Nat},QF ⟨n0+1,low,o⟩ 2 x=some (xs.length,(xs.map AV.cells).flatten):=fun {low}=>xM d V
    have af:(xs.map AV.cells).flatten.length=xs.length*2:=by
     have:=gL (k:=2) (xs.map AV.cells) fun x R=>by obtain ⟨y,S,rfl⟩:=List.mem_map.1 R;exact (V y S).1
     rw [this,List.length_map]
    obtain ⟨g2,z2,he,aj⟩:=aFl (s:=⟨n0+1,low,o⟩) (by_:=16) (c:=(bZ ls).length) (n:=xs.length) ((Sto.get_mk (show n0<n0+1 by omega)).trans E) Y N u af aC;refine wV @C @r @D @t6 @Z @f0 @w @l @hw @k2 @J @he @Int.toNat_natCast @Nat.mul_one @Nat.zero_add ?_;rw [d.els]at q
    have ag:(bZ (ls.take (i+1))).length=(bZ (ls.take i)).length+xs.length:=by rw [q,List.length_append]
    have ad:((bZ (ls.take (i+1))).map AV.cells).flatten=((bZ (ls.take i)).map AV.cells).flatten++(xs.map AV.cells).flatten:=by rw [q,List.map_append,List.flatten_append]
    refine ⟨i+1,by show _-_<_-_;omega,_,_,_,g2,z2,rfl,aM @C,aM @r,aG,?_,?_,?_,?_,Nat.le_min.2 ⟨Nat.le_refl _,G⟩,m⟩
    ·rw [ag];exact aG
    ·rw [Tr.get_set_ne _ _ aC];exact Z
    ·rw [Tr.get_set_same,ad]
    ·rw [ad];exact aj
   ·obtain rfl:i=ls.length:=Nat.le_antisymm Q A
    refine CT @r @D @t6 @bH ?_;refine ⟨rfl,_,rfl,?_⟩;refine zI ?_;rw [List.take_length]at E N Y ⊢;obtain rfl:z=[]:=List.eq_nil_of_length_eq_zero (by rw [List.length_append]at N;omega);rw [List.append_nil]at E;refine ⟨G,?_⟩;have hv:=iC U;rw [dR,if_neg aC,<-OT tk_val hv]
    refine YF (Nat.le_refl _) ((Sto.get_mk (show n0<n0+1 by omega)).trans E) (by simp) (OU tk_val hv) fun x R y S=>?_
    obtain ⟨v,hm,rfl⟩:=List.mem_map.1 R;obtain ⟨_,_,rfl,⟨a,rfl⟩,⟨b,rfl⟩⟩:=hv v hm
    rcases List.mem_cons.1 S with rfl | S
    ·exact aV
    ·obtain rfl:=List.mem_singleton.1 S
     exact aV
def TG (fs:List AV):List AV:=(fs.map fun f=>[f.fld 1,f.fld 2]).flatten
def qN (vs:AV) (fs:List AV):List AV:=vs::TG fs
def lsO (o:AV):List AV:=qN (o.fld 2) (o.fld 3).els
def bS (o:AV):List AV:=bZ (lsO o)
theorem OR {fs:List AV} {i:Nat} {f:AV} (h:fs[i]?=some f):TG (fs.take (i+1))=TG (fs.take i)++[f.fld 1,f.fld 2]:=by simp [TG,List.take_add_one,h]
theorem KP (fs:List AV):(TG fs).length=fs.length*2:=by
 unfold TG;rw [gL (k:=2) _ fun x a=>by obtain ⟨f,_,rfl⟩:=List.mem_map.1 a;rfl,List.length_map]
theorem OS {fs:List AV} (h:∀ f∈fs,TFr f):∀ x∈TG fs,lP x:=fun x a=>by
 obtain ⟨l,e,a⟩:=List.mem_flatten.1 a;obtain ⟨f,d,rfl⟩:=List.mem_map.1 e;obtain ⟨_,_,_,rfl,_,b,c⟩:=h f d
 rcases List.mem_cons.1 a with rfl | a
 ·exact b
 ·obtain rfl:=List.mem_singleton.1 a;exact c
theorem nK {o:AV} (h:AE o):∀ x∈lsO o,lP x:=fun x a=>by
 obtain ⟨_,_,_,_,rfl,_,_,b,fs,c,d⟩:=h
 rcases List.mem_cons.1 a with rfl | a
 ·exact b
 ·refine OS (fs:=fs) d x ?_
  rw [<-c.els];exact a
def vO (o:AV):Prop:=AE o/\(o.fld 3).els.length<=400/\(bS o).length<=100000
abbrev EA (o:AV):AV:=.func (.func 124) [] [.pf o]
theorem aAm (o:AV) (h:AE o):Abs.Returns Tryz.prog 82 [o] (EA o):=by
 have a:=(tk_ob o h).1;obtain ⟨_,cs,rfl,c,b⟩:=tk_ob o h;refine bU (L:=[]) aE aN (by kernel_rfl) Tryz.func82 Tryz.ntmps82 Tryz.results82 rfl rfl (aA a.und aD) ?_;refine wU @b ?_;exact mS (cs:=cs) rfl rfl (wJ a)
def pQ (o:AV):List (List AV):=(bS o).map fun v=>[v]
set_option maxHeartbeats 4000000 in
theorem BE {o:AV} (ho:vO o) {O:cH} (h1:∀ a σ,O 124 a σ=none)
 (h2:∀ id g c ls (s:Sto),s.get id=some (aQ g ls)->(∀ x∈ls,lP x)->ls.length<=1000->(bZ ls).length<=100000->O 125 [.sl id g 0 ls.length c] s=some (.ret (dR (bZ ls)) none)):
 BD Tryz.prog O (EA o) (pQ o):=by
 refine ⟨BC h1,fun l J D σ hl hJ hD ad hr=>?_⟩;refine nA (first:=[]) (cap:=[.pf o]) aN (h1 _ _) (by kernel_rfl) Tryz.func124 Tryz.ntmps124 Tryz.results124 rfl rfl ?_;obtain ⟨hT,bc,aa⟩:=ho;have r:=nK hT;unfold pQ at hr ⊢;rw [List.length_map];unfold bS lsO at aa hr ⊢;unfold lsO at r;obtain ⟨c0,c1,vs,fs,rfl,⟨k0,rfl⟩,⟨k1,rfl⟩,bg,an⟩:=hT;have am:=(tu_vals vs bg).2;have ba:=(gZ fs an).2;obtain ⟨m,R,ag⟩:=an;have e2:(AV.agg [.int .i64 k0,.int .i64 k1,vs,fs]).fld 2=vs:=rfl;have e3:((AV.agg [.int .i64 k0,.int .i64 k1,vs,fs]).fld 3).els=m:=R.els;rw [e2,e3]at aa r hr ⊢;rw [e3]at bc;obtain ⟨n0,bh,o0⟩:=σ;have s1:∀ {a:AV},[AV.nils].set (0*1) a=[a]:=rfl;refine CT @am @ba R.lX @s1 ?_
 refine aL (fun i e=>∃ t n low o id g c,e=⟨38,none,124,t,[],⟨n,low,o⟩,.no⟩/\t.val 0=.func (.yield l) [] []/\t.val 12=fs/\t.val 13=.int .i64 (m.length:Nat)/\t.val 14=.int .i64 (i:Nat)/\t.val 3=.sl id g 0 (qN vs (m.take i)).length c/\
  o.get id=some (aQ g (qN vs (m.take i)))/\(c=.is (qN vs (m.take i)).length∨c=.room 1)/\id<n/\n0<=id/\Old n0 o0 n o/\i<=m.length) (fun i=>m.length-i) 0
  ⟨_,_,_,_,n0,0,.is 1,rfl,aG,aG,aG,eA,eA,?_,.inl rfl,Nat.lt_succ_self _,Nat.le_refl _,zW.2.1 zW.1,Nat.zero_le _⟩ ?_
 ·rw [Tr.get_set_same];rfl
 rintro i _ ⟨t,n,low,o,id,g,c,rfl,t0,L,A,T,t3,E,ai,G,F,q,hi⟩
 rcases Nat.lt_or_ge i m.length with y | X
 ·obtain ⟨f,aw,hm,Z,_,Q,hw,N⟩:=bB (k:=3) (fun x h=>tk_fr.len h) ag (show m.length<=9223372036854775807 by omega) y
  obtain ⟨a,b,d,rfl,⟨B,rfl⟩,hb,hd⟩:=aw;have aj:=(tu_vals b hb).2;have ak:=(tu_vals d hd).2;have ar:=OR Z;have az:(AV.agg [.int .i64 B,b,d]).fld 1=b:=rfl;have bb:(AV.agg [.int .i64 B,b,d]).fld 2=d:=rfl;rw [az,bb]at ar
  have I:qN vs (m.take (i+1))=qN vs (m.take i)++[b,d]:=by rw [qN,qN,ar,List.cons_append]
  have V:(qN vs (m.take (i+1))).length=(qN vs (m.take i)).length+2:=by rw [I,List.length_append];rfl
  have be:(TG (m.take i)).length=i*2:=by rw [KP,List.length_take,Nat.min_eq_left hi]
  have bd:(qN vs (m.take i)).length=i*2+1:=by rw [qN,List.length_cons,be]
  have ah:(qN vs (m.take i)).all AV.isCell=true:=List.all_eq_true.2 fun x hx=>by
   rcases List.mem_cons.1 hx with rfl | hx
   ·exact am
   ·exact (tu_vals x (OS (fun f hf=>ag f (List.mem_of_mem_take hf)) x hx)).2
  have f1:=dO G
  have w:(2*((qN vs (m.take i)).length+2)+1024)*24<=281474976710656/\(qN vs (m.take i)).length+2<4611686018427387904:=by rw [bd];omega
  have aq:(qN vs (m.take i)).length<(qN vs (m.take i)).length+2:=by omega
  rcases ai with rfl | rfl
  ·refine UQ @L @A @T @t3 @Q R.iX @N @hw @aj @ak @E @f1 @eP @aHw @YB @aq @ah @w @Nat.mul_one @Nat.zero_add ?_
   refine ⟨i+1,by show _-_<_-_;omega,_,_,_,_,n+1+1,0,.room 1,rfl,aM @t0,aM @L,aM @A,aG,?_,?_,.inr rfl,Nat.lt_succ_self _,by have:=q.1;omega,?_,y⟩
   ·rw [V];exact aG
   ·rw [Tr.get_set_same,I]
   ·exact zW.2.1 (zW.2.1 (zW.2.2.1 q.1 (zW.2.1 q)))
  ·refine AC @L @A @T @t3 @Q R.iX @N @hw @aj @ak @E @f1 @eP @w @Nat.mul_one @Nat.zero_add ?_
   refine ⟨i+1,by show _-_<_-_;omega,_,_,_,_,id,g+1,.room 1,rfl,aM @t0,aM @L,aM @A,aG,?_,?_,.inr rfl,aC,F,?_,y⟩
   ·rw [V];exact aG
   ·rw [Tr.get_set_same,I]
   ·exact zW.2.2.1 F (zW.2.1 (zW.2.2.1 q.1 (zW.2.1 q)))
 ·obtain rfl:i=m.length:=Nat.le_antisymm hi X
  rw [List.take_length]at t3 E;have al:=h2 id g c (qN vs m) ⟨n,low,o⟩ ((Sto.get_mk G).trans E) r (by rw [qN,List.length_cons,KP];omega) aa;have au:Sl (dR (bZ (qN vs m))) (bZ (qN vs m)):=lM aC;refine PJ @A @T @t3 @bH @al au.lX ?_;have ay:∀ x∈bZ (qN vs m),tJ x:=iC r;generalize bZ (qN vs m)=U at *;have af:J 0 DY ⟨n,low,o⟩:=hJ _ _ _ _ _ (.sim q.sim) ad
  refine aL (fun i e=>∃ t u,e=⟨38,none,124,t,[],u,.no⟩/\t.val 0=.func (.yield l) [] []/\t.val 27=dR U/\t.val 28=.int .i64 (U.length:Nat)/\t.val 29=.int .i64 (i:Nat)/\i<=U.length/\l<u.n/\J i DY u/\(i=0∨u.low<=l)) (fun i=>U.length-i) 0
   ⟨_,_,rfl,aM @t0,aG,aG,eA,Nat.zero_le _,Nat.lt_of_lt_of_le hl q.1,af,.inl rfl⟩ ?_
  clear t0 L A T t3 E hi af al q G F;rintro i _ ⟨t,⟨n,low,o⟩,rfl,t0,av,ab,ac,hi,bf,ae,ao⟩
  rcases Nat.lt_or_ge i U.length with y | X
  ·obtain ⟨x,ax,hm,Z,_,Q,hw,N⟩:=bB (k:=2) (fun x h=>tk_val.len h) ay (show U.length<=9223372036854775807 by omega) y
   obtain ⟨a,b,rfl,⟨B,rfl⟩,⟨S,rfl⟩⟩:=ax;refine JB @t0 @av @ab @ac @Q au.iX @N @eP ?_;have ap:l<n+1:=Nat.lt_succ_of_lt bf;have C:=hr i [.agg [.int .i64 B,.int .i64 S]] (by simp [Z]) DY ⟨n+1,n.min low,(o.set n (aQ 0 [.int .i64 0,.int .i64 0])).set n (aQ 0 [.int .i64 B,.int .i64 S])⟩ ap (fun h=>h) (fun _ h=>h.elim) (hJ _ _ _ _ _ (.sim (Old.sim (zW.2.2.1 (Nat.le_refl _) (zW.2.1 zW.1)))) ae)
   refine C.mono fun res hk=>?_
   clear C
   cases res with
   | pan v so=>exact hk.elim
   | ret v so=>
     rw [fA]
     have k:(v=.bool true/\(so.getD ⟨n+1,n.min low,(o.set n (aQ 0 [.int .i64 0,.int .i64 0])).set n (aQ 0 [.int .i64 B,.int .i64 S])⟩).low<=l/\nJ DY ⟨n+1,n.min low,(o.set n (aQ 0 [.int .i64 0,.int .i64 0])).set n (aQ 0 [.int .i64 B,.int .i64 S])⟩ (so.getD ⟨n+1,n.min low,(o.set n (aQ 0 [.int .i64 0,.int .i64 0])).set n (aQ 0 [.int .i64 B,.int .i64 S])⟩)/\J (i+1) DY (so.getD ⟨n+1,n.min low,(o.set n (aQ 0 [.int .i64 0,.int .i64 0])).set n (aQ 0 [.int .i64 B,.int .i64 S])⟩))∨
      (v=.bool false/\(so.getD ⟨n+1,n.min low,(o.set n (aQ 0 [.int .i64 0,.int .i64 0])).set n (aQ 0 [.int .i64 B,.int .i64 S])⟩).low<=l/\D DY (so.getD ⟨n+1,n.min low,(o.set n (aQ 0 [.int .i64 0,.int .i64 0])).set n (aQ 0 [.int .i64 B,.int .i64 S])⟩)):=by
      cases v with
      | bool b=>cases b with
        | true=>exact .inl ⟨rfl,hk⟩
        | false=>exact .inr ⟨rfl,hk.1,hk.2.2⟩
      | _=>exact hk.elim
     generalize so.getD ⟨n+1,n.min low,(o.set n (aQ 0 [.int .i64 0,.int .i64 0])).set n (aQ 0 [.int .i64 B,.int .i64 S])⟩=u at *
     rcases k with ⟨rfl,k1,k0,k2⟩ | ⟨rfl,k1,k2⟩
     ·refine JA @ac @hw ?_
      exact ⟨i+1,by show _-_<_-_;omega,_,_,rfl,aM @t0,aM @av,aM @ab,aG,y,Nat.lt_of_lt_of_le ap k0.1,k2,.inr k1⟩
     ·refine zI ?_
      refine ⟨rfl,_,rfl,_,rfl,fun e he hr=>?_⟩;exact qB _ _ e (fun s'=>∃ Y,J U.length Y s'∨D Y s') (fun s s' hs ⟨Y,h⟩=>⟨Y,h.imp (hJ _ _ _ _ _ (.sim hs)) (hD _ _ _ _ (.sim hs))⟩) ⟨DY,.inr (he ▸ k2)⟩ (.inl (he ▸ Nat.lt_of_le_of_lt k1 hl))
  ·obtain rfl:i=U.length:=Nat.le_antisymm hi X
   refine GU @ab @ac @bH ?_;refine ⟨rfl,_,rfl,_,rfl,fun e he hr=>?_⟩;refine qB _ _ e (fun s'=>∃ Y,J U.length Y s'∨D Y s') (fun s s' hs ⟨Y,h⟩=>⟨Y,h.imp (hJ _ _ _ _ _ (.sim hs)) (hD _ _ _ _ (.sim hs))⟩) ⟨DY,.inl (he ▸ ae)⟩ ?_
   rcases ao with h | h
   ·exact .inr ⟨DY,.inl (h ▸ ad)⟩
   ·exact .inl (he ▸ Nat.lt_of_le_of_lt h hl)
end
end Go.Proofs.YtdipddlhenoglaaGreat
