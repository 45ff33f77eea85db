/-
  The abstract machine: calls that turn objects of their caller, and return what is frozen.
-/
import Derived.Test.YtdipddlhenoglaaGreatEp
set_option linter.unusedVariables false
set_option linter.unusedSimpArgs false
namespace Go.Abs
noncomputable section
variable {P:Program} {O:cH} {H:dG}
theorem nC {σ:Sg} {n:Nat} (I:∀ id g x,σ id g=some x->id<n) {a:AV} {V:Value} (h:VR σ a V):nE n a:=by
 induction h with
 | top V=>exact aNu
 | bool b=>exact aJ
 | int k m=>exact aV
 | str l s w=>exact oL
 | nilp=>exact QN
 | ptr id g off b base sz w=>
   intro τ V r
   cases r with | ptr _ _ _ b base sz o=>exact .ptr _ _ _ _ _ _ (show τ.cut n id g=some (b,base,sz) by simp [Sg.cut,I _ _ _ w,o])
 | pf v b off h1 Z u=>
   refine aRh fun y R=>?_
   obtain ⟨i,d⟩:=List.getElem?_of_mem R;have e:=(List.getElem?_eq_some_iff.1 d).1;obtain ⟨W,L⟩:=Option.isSome_iff_exists.1 (Z i e);exact u i y W d L
 | nils=>exact fB
 | sl id g off len cap b base sz C w hl hc=>
   intro τ V r
   cases r with | sl _ _ _ _ _ b base sz C o Q M=>exact .sl _ _ _ _ _ _ _ _ _ (show τ.cut n id g=some (b,base,sz) by simp [Sg.cut,I _ _ _ w,o]) Q M
 | fz l Y a C b off k h1 Z h3 h4 h5 h6 u=>
   refine aIp fun x D y R=>?_
   obtain ⟨i,d⟩:=List.getElem?_of_mem D;obtain ⟨j,hj⟩:=List.getElem?_of_mem R;have e:=(List.getElem?_eq_some_iff.1 d).1
   have N:j<k:=by rw [<-h4 x D];exact (List.getElem?_eq_some_iff.1 hj).1
   obtain ⟨W,L⟩:=Option.isSome_iff_exists.1 (h6 i j e N);exact u i j x y W d hj L
 | nilm=>exact aIn
 | map id b base sz w=>
   intro τ V r
   cases r with | map _ b base sz o=>exact .map _ _ _ _ (show τ.cut n id 0=some (b,base,sz) by simp [Sg.cut,I _ _ _ w,o])
 | func f F a c A C hF E J e3 e4 S T=>
   intro τ V r
   cases r with
   | func _ F' _ _ A' C' q g1 g2 g3 g4=>
     refine .func _ _ _ _ _ _ ?_ g1 g2 (fun i x X B U=>?_) (fun i x X B U=>?_)
     ·cases hF with
      | func f=>cases q;exact .func f
      | method m=>cases q;exact .method m
      | methodOf t m=>cases q;exact .methodOf t m
      | via t p f b=>cases q;exact .via t p f b
      | yield l b base sz w=>cases q with | yield _ b' base' sz' o=>exact .yield _ _ _ _ (show τ.cut n l 0=some (b',base',sz') by simp [Sg.cut,I _ _ _ w,o])
     ·have d:i<A.size:=by rw [<-E];exact (List.getElem?_eq_some_iff.1 B).1
      exact S i x A[i] B (by simp [d]) τ X (g3 i x X B U)
     ·have d:i<C.size:=by rw [<-J];exact (List.getElem?_eq_some_iff.1 B).1
      exact T i x C[i] B (by simp [d]) τ X (g4 i x X B U)
 | nilf=>exact aIo
 | iface t v V _ u=>exact aCh u
 | nili=>intro τ V r;cases r;exact .nili
 | agg xs G E J u=>
   refine YU fun x D=>?_
   obtain ⟨i,d⟩:=List.getElem?_of_mem D
   have e:i<G.size:=by rw [<-E];exact (List.getElem?_eq_some_iff.1 d).1
   exact u i x G[i] d (by simp [e])
 | tuple xs G E J u=>
   refine kU fun x D=>?_
   obtain ⟨i,d⟩:=List.getElem?_of_mem D
   have e:i<G.size:=by rw [<-E];exact (List.getElem?_eq_some_iff.1 d).1
   exact u i x G[i] d (by simp [e])
def PW (n:Nat) (x:AObj):Prop:=∀ (τ:Sg) base sz o,ObjR τ base sz x o->ObjR (τ.cut n) base sz x o
theorem aNb {σ:Sg} {n:Nat} (u:∀ id g x,σ id g=some x->id<n) {x:AObj} {base sz:Nat} {o:Obj} (h:ObjR σ base sz x o):PW n x:=by
 have ab:∀ (d:ADef) (D:Deferred),DefR σ d D->∀ (τ:Sg) (M:Deferred),DefR τ d M->DefR (τ.cut n) d M:=by
  intro d D hD τ M Q
  cases hD with
  | call f F first cap args A C q1 q2 q3=>
    cases Q with
    | call _ F' _ _ _ A' C' w L U=>
      refine .call _ _ _ _ _ _ _ ?_ ⟨L.1,fun i x X k1 k2=>?_⟩ ⟨U.1,fun i x X k1 k2=>?_⟩
      ·cases q1 with
       | func f=>cases w;exact .func f
       | method m=>cases w;exact .method m
       | methodOf t m=>cases w;exact .methodOf t m
       | via t p f b=>cases w;exact .via t p f b
       | yield l b base sz hs=>cases w with | yield _ b' base' sz' I=>exact .yield _ _ _ _ (show τ.cut n l 0=some (b',base',sz') by simp [Sg.cut,u _ _ _ hs,I])
      ·have y:i<C.toList.length:=by rw [<-q2.1];exact (List.getElem?_eq_some_iff.1 k1).1
       exact nC u (q2.2 i x _ k1 (List.getElem?_eq_getElem y)) τ X (L.2 i x X k1 k2)
      ·have y:i<A.toList.length:=by rw [<-q3.1];exact (List.getElem?_eq_some_iff.1 k1).1
       exact nC u (q3.2 i x _ k1 (List.getElem?_eq_getElem y)) τ X (U.2 i x X k1 k2)
  | collected id b base sz hs=>
    cases Q with
    | collected _ b' base' sz' I=>exact .collected _ _ _ _ (show τ.cut n id 0=some (b',base',sz') by simp [Sg.cut,u _ _ _ hs,I])
 intro τ base' sz' o' J
 cases h with
 | cells g m c arr el fr G S h3 h4=>
   cases J with
   | cells _ _ _ ae aj ak q B g3 g4=>
     refine .cells _ _ _ _ _ _ q B (fun i a y ha=>?_) g4;obtain ⟨V0,_,ac⟩:=h3 i a y ha;obtain ⟨V,e,R⟩:=g3 i a y ha;exact ⟨V,e,nC u ac τ V R⟩
 | map es ck ES G S=>
   cases J with
   | map _ _ af q B=>
     refine .map _ _ _ q fun i k v b E e1 e2=>?_
     have y:i<ES.size:=by rw [<-G];exact (List.getElem?_eq_some_iff.1 e1).1
     obtain ⟨k1,k2,_⟩:=S i k v b ES[i] e1 (by simp [y]);obtain ⟨w,L,U⟩:=B i k v b E e1 e2;exact ⟨nC u k1 τ _ w,nC u k2 τ _ L,U⟩
 | siter s al bs G S=>cases J with | siter _ _ ah q B=>exact .siter _ _ _ q B
 | loop st pe fn nt t ps a b d T PS db aa ai G S h3=>
   cases J with
   | loop _ _ _ _ _ _ _ _ _ T' ag Z r N q B g3=>
     exact .loop _ _ _ _ _ _ _ _ _ _ _ _ _ _ ⟨q.1,fun i v R=>⟨(q.2 i v R).1,nC u (G.2 i v R).2 τ _ (q.2 i v R).2⟩⟩ B (show τ.cut n d 0=some (Z,r,N) by simp [Sg.cut,u _ _ _ h3,g3])
 | defsN=>cases J;exact .defsN
 | defsS ds Ds G=>
   cases J with
   | defsS _ Y q=>
     refine .defsS _ _ ?_;clear base sz
     induction G generalizing Y with
     | nil=>cases q;exact .nil
     | cons d D ds Ds q1 q2 ih=>
       cases q with
       | cons _ M _ ad w L=>exact .cons _ _ _ _ (ab d D q1 τ M w) (ih _ L)
theorem aHu {n g:Nat} {cs:List AV} (h:∀ c∈cs,nE n c):PW n (aQ g cs):=by
 intro τ base sz o m
 cases m with
 | cells _ _ _ arr u fr d f k l=>
   refine .cells _ _ _ _ _ _ d f (fun i a q b=>?_) l;obtain ⟨V,e,r⟩:=k i a q b
   have:a∈cs:=by
    rw [Tr.get_row]at b;exact List.mem_of_getElem? b
   exact ⟨V,e,h a this τ V r⟩
theorem BN {s S s':Sto} {v v':AV} (hn:s'.n=s.n) (al:s'.low<=s.low) (am:s'.low<=S.low) (ht:(∀ id,s.n<=id->s.o.get id=none)->∀ id,s'.n<=id->s'.o.get id=none) (hg:∀ id,id<s.n->s'.get id=S.get id)
 (hu:∀ id,id<s.n->S.get id=s.get id∨∀ x,S.get id=some x->PW s.n x) (hf:Frz S s.n v v'):pF s S v v' (some s'):=by
 intro σ τ w w' h u
 let NW:Nat->Prop:=fun b=>∃ id x base sz,s.n<=id/\S.get id=some x/\τ id (dF x)=some (b,base,sz)
 let M:Nat->Nat->Option Value:=fun b off=>match τ.m b off with
  | some V=>some V
  | none=>@ite _ (NW b) (Classical.propDecidable _) (w'.cell? ⟨b,off,none⟩) none
 have hM:∀ b off V,τ.m b off=some V->M b off=some V:=fun b off V d=>by simp [M,d]
 have aa:∀ b off,NW b->M b off=w'.cell? ⟨b,off,none⟩:=fun b off Q=>by
  simp only [M]
  cases hc:τ.m b off with
  | some V=>simp only;exact (u.rel.mu b off V hc).1.symm
  | none=>simp only [Q,if_true]
 have ae:∀ b off V,M b off=some V->τ.m b off=some V∨(NW b/\w'.cell? ⟨b,off,none⟩=some V):=fun b off V d=>by
  simp only [M]at d;split at d
  ·rename_i W hW;cases d;exact .inl hW
  ·split at d
   ·rename_i Q;exact .inr ⟨Q,d⟩
   ·cases d
 let ρ:Sg:=⟨M,(τ.cut s.n).s⟩
 have ah:(τ.cut s.n).le ρ:=⟨fun _ _ _ h=>h,hM⟩
 have hρ:∀ id g,id<s.n->ρ id g=τ id g:=fun id g E=>by
  show (τ.cut s.n).s id g=_;simp only [Sg.cut];rw [if_pos E]
 have ak:∀ id g y,ρ id g=some y->id<s.n/\τ id g=some y:=fun id g y hy=>by
  have ac:(τ.cut s.n).s id g=some y:=hy;simp only [Sg.cut]at ac;split at ac
  ·rename_i E;exact ⟨E,ac⟩
  ·cases ac
 have R:∀ id x,s'.get id=some x->id<s.n/\S.get id=some x:=fun id x hx=>by
  have:id<s.n:=by rw [<-hn];exact Sto.get_lt hx
  exact ⟨this,by rw [<-hg id this];exact hx⟩
 have N:∀ b,Has ρ s' b->Has τ S b/\¬ NW b:=by
  rintro b ⟨id,x,base,sz,r,I⟩;obtain ⟨q1,U⟩:=R id x r;rw [hρ id _ q1]at I;refine ⟨⟨id,x,base,sz,U,I⟩,?_⟩;rintro ⟨T,x',base',sz',k1,k2,k3⟩;have:=u.rel.inj id x T x' b base sz base' sz' U k2 I k3;omega
 have aj:Rel ρ s' w':={
  obj:=fun id x hx=>by
   obtain ⟨q1,U⟩:=R id x hx;obtain ⟨b,base,sz,o,k1,k2,k3⟩:=u.rel.obj id x U;refine ⟨b,base,sz,o,by rw [hρ id _ q1];exact k1,k2,?_⟩
   have hU:PW s.n x:=by
    rcases hu id q1 with r | r
    ·rw [r]at U
     obtain ⟨_,_,_,_,_,_,p3⟩:=h.obj id x U;exact aNb (fun id g y hy=>h.bnd id g y hy) p3
    ·exact r x U
   exact (hU τ base sz o k3).mono ah
  inj:=fun id x T x' b base sz base' sz' r I h3 h4=>by
   obtain ⟨q1,U⟩:=R id x r;obtain ⟨r1,r2⟩:=R T x' I;exact u.rel.inj id x T x' b base sz base' sz' U r2 (by rw [<-hρ id _ q1];exact h3) (by rw [<-hρ T _ r1];exact h4)
  mu:=fun b off V d=>by
   rcases ae b off V d with r | ⟨r,I⟩
   ·exact ⟨(u.rel.mu b off V r).1,fun hh=>(u.rel.mu b off V r).2 (N b hh).1⟩
   ·exact ⟨I,fun hh=>(N b hh).2 r⟩
  bnd:=fun id g y hy=>by rw [hn];exact (ak id g y hy).1
  gen:=fun id x g y r I=>u.rel.gen id x g y (R id x r).2 (ak id g y I).2
  top:=ht h.top}
 refine ⟨ρ,⟨aj,⟨fun id g y hy=>?_,fun b off V d=>hM _ _ _ (u.ext.m _ _ _ d)⟩,u.size,u.frame,fun b Q=>u.own b (N b Q).1,by rw [hn];exact Nat.le_refl _,al,fun id r I=>?_,u.os,u.out,u.tape,fun id r I=>?_,fun b off V d=>?_⟩,?_⟩
 ·rw [hρ id g (h.bnd id g y hy)];exact u.ext _ _ _ hy
 ·obtain ⟨k1,k2,k3⟩:=u.keep id r (Nat.lt_of_lt_of_le I am)
  exact ⟨by rw [hg id r];exact k1,fun g=>by rw [hρ id g r];exact k2 g,k3⟩
 ·obtain ⟨k1,k2⟩:=u.hole id r I
  exact ⟨by rw [hg id r];exact k1,fun g=>by rw [hρ id g r];exact k2 g⟩
 ·rcases ae b off V d with k1 | ⟨⟨id,x,base,sz,k1,k2,k3⟩,k4⟩
  ·exact u.mnew b off V k1
  ·rcases u.own b ⟨id,x,base,sz,k2,k3⟩ with q | q
   ·exact .inr (.inl q)
   ·exact .inr (.inr q)
 ·induction hf with
  | und v hu=>exact fun V d=>(hu τ V d).mono ah
  | agg l l' hl _ ih=>
    intro V d
    cases d with
    | agg _ ys X G=>
      refine .agg _ _ (by rw [<-hl];exact X) fun i y Y D L=>?_
      have B:i<l.length:=by rw [hl];exact (List.getElem?_eq_some_iff.1 D).1
      exact ih i l[i] y (List.getElem?_eq_getElem B) D Y (G i _ Y (List.getElem?_eq_getElem B) L)
  | tuple l l' hl _ ih=>
    intro V d
    cases d with
    | tuple _ ys X G=>
      refine .tuple _ _ (by rw [<-hl];exact X) fun i y Y D L=>?_
      have B:i<l.length:=by rw [hl];exact (List.getElem?_eq_some_iff.1 D).1
      exact ih i l[i] y (List.getElem?_eq_getElem B) D Y (G i _ Y (List.getElem?_eq_getElem B) L)
  | func f a a' c c' af ag _ _ an ao=>
    intro V d
    cases d with
    | func _ F _ _ A C hF X G e3 e4=>
      refine .func _ _ _ _ _ _ (by cases hF;exact .func f) (by rw [<-af];exact X) (by rw [<-ag];exact G) (fun i y Y D L=>?_) (fun i y Y D L=>?_)
      ·have B:i<a.length:=by rw [af];exact (List.getElem?_eq_some_iff.1 D).1
       exact an i a[i] y (List.getElem?_eq_getElem B) D Y (e3 i _ Y (List.getElem?_eq_getElem B) L)
      ·have B:i<c.length:=by rw [ag];exact (List.getElem?_eq_some_iff.1 D).1
       exact ao i c[i] y (List.getElem?_eq_getElem B) D Y (e4 i _ Y (List.getElem?_eq_getElem B) L)
  | sl id g off len cap m k c l a E hg hl hm hk ha _ ih=>
    intro V d
    cases d with
    | sl _ _ _ _ _ b base sz C ad ai ap=>
      obtain ⟨b',base',sz',o,D,L,g3⟩:=u.rel.obj id _ hg;have J:τ id g=some (b',base',sz'):=D;rw [ad]at J
      obtain ⟨rfl,rfl,rfl⟩:b=b'/\base=base'/\sz=sz':=by simpa using J
      have Q:∃ id x base sz,s.n<=id/\S.get id=some x/\τ id (dF x)=some (b,base,sz):=⟨id,_,base,sz,E,hg,D⟩
      cases g3 with
      | cells _ _ _ arr el fr q1 U q3 q4=>
        have e:∀ j,j<m->w'.cell? ⟨b,base+j,none⟩=arr[base+j]?:=fun j Z=>by simp [World.cell?,L]
        have ab:∀ i j,i<l.length->j<k->off+i*k+j<m:=by
         intro i j B Z
         have:i*k+k<=len*k:=by
          rw [<-Nat.succ_mul];exact Nat.mul_le_mul_right k (by omega)
         omega
        subst hl;refine .fz l false ⟨b,base+off,none⟩ C b (base+off) k (fun _=>rfl) ai (fun hc=>by cases hc) hk (fun i j x y W X G e3=>?_) (fun i j B Z=>?_)
        ·have B:=(List.getElem?_eq_some_iff.1 X).1
         have Z:j<k:=by rw [<-hk x (List.mem_of_getElem? X)];exact (List.getElem?_eq_some_iff.1 G).1
         obtain ⟨W',e4,e5⟩:=q3 _ (a i j) (ab i j B Z) (ha i j x y X G);have e6:M b (base+off+i*k+j)=some W:=e3;rw [aa _ _ Q,show base+off+i*k+j=base+(off+i*k+j) by omega,e _ (ab i j B Z),e4]at e6;cases e6;exact ih i j x y X G W e5
        ·show (M b (base+off+i*k+j)).isSome=true
         rw [aa _ _ Q,show base+off+i*k+j=base+(off+i*k+j) by omega,e _ (ab i j B Z)];have:=ab i j B Z;rw [Array.getElem?_eq_getElem (show base+(off+i*k+j)<arr.size by omega)];rfl
  | ptr id g off m c v a E hg hm ha _ ih=>
    intro V d
    cases d with
    | ptr _ _ _ b base sz ad=>
      obtain ⟨b',base',sz',o,D,L,g3⟩:=u.rel.obj id _ hg;have J:τ id g=some (b',base',sz'):=D;rw [ad]at J
      obtain ⟨rfl,rfl,rfl⟩:b=b'/\base=base'/\sz=sz':=by simpa using J
      have Q:∃ id x base sz,s.n<=id/\S.get id=some x/\τ id (dF x)=some (b,base,sz):=⟨id,_,base,sz,E,hg,D⟩
      cases g3 with
      | cells _ _ _ arr el fr q1 U q3 q4=>
        have e:∀ j,j<m->w'.cell? ⟨b,base+j,none⟩=arr[base+j]?:=fun j Z=>by simp [World.cell?,L]
        refine .pf v b (base+off) (fun j y W G e3=>?_) (fun j Z=>?_)
        ·have Z:=(List.getElem?_eq_some_iff.1 G).1
         obtain ⟨W',e4,e5⟩:=q3 _ (a j) (by omega) (ha j y G);have e6:M b (base+off+j)=some W:=e3;rw [aa _ _ Q,show base+off+j=base+(off+j) by omega,e _ (by omega),e4]at e6;cases e6;exact ih j y G W e5
        ·show (M b (base+off+j)).isSome=true
         rw [aa _ _ Q,show base+off+j=base+(off+j) by omega,e _ (by omega)];rw [Array.getElem?_eq_getElem (show base+(off+j)<arr.size by omega)];rfl
def JC (s:Sto) (r:Nat) (x:AObj) (v:AV) (S:Sto) (a:AV):Prop:=r<=S.low/\S.get r=some x/\(∀ id,id<s.n->id≠r->S.get id=s.get id)/\Frz S s.n a v
theorem ME {s S:Sto} {r:Nat} {x:AObj} {v f:AV} (m:r<s.n) (u:PW s.n x) (h:JC s r x v S f):pF s S f v (some (s.put r x)):=by
 obtain ⟨k,c,d,l⟩:=h;refine BN rfl ?_ ?_ (fun q id a=>?_) (fun id a=>?_) (fun id a=>?_) l
 ·rw [Sto.low_put];exact Nat.min_le_right _ _
 ·rw [Sto.low_put];exact Nat.le_trans (Nat.min_le_left _ _) k
 ·show (s.o.set r x).get id=none
  have:s.n<=id:=a;rw [Tr.get_set_ne _ _ (by omega)];exact q id a
 ·by_cases b:id=r
  ·subst b;rw [c];exact Sto.get_put_same _ _ m
  ·rw [d id a b,Sto.get_put_ne _ _ b]
 ·by_cases b:id=r
  ·subst b;right;intro y e;rw [c]at e;cases e;exact u
  ·left;exact d id a b
theorem iR {L:List kG} (k:∀ x∈L,bM P x) (H:dG) {f:FuncId} {fn:Func} {c:Code} {N:Nat} {d:List ResultVar} {args:List AV} {s:Sto} {r:Nat} {x:AObj} {v:AV} (a:okFn P f=true) (q:P.funcs[f]?=some fn) (u:fn.ntmps=N) (w:fn.results=d.toArray) (m:fn.body=some c)
 (l:Nat.ble args.length N=true) (b:r<s.n) (y:PW s.n x)
 (h:Wk P (orcL L) H c ⟨N,none,f,Tr.leaf.lay 0 args,[],⟨s.n,s.n,s.o⟩,.no⟩ (jR P d (JC s r x v) fun _ _=>False)):bO P f args s (.ret v (some (s.put r x))):=by
 refine sound_end (mT k) a q m (C:=JC s r x v) (D:=fun _ _=>False) (fun S A e=>⟨v,_,rfl,ME b y e⟩) (fun _ _ h=>h.elim) ?_;rw [gN u l,show fn.results.toList=d by rw [w]];exact h.sound
def bG (f:FuncId) (R:List AV->Sto->CRes->Prop):kG:=⟨f,fun args s=>@dite _ (∃ res,R args s res) (Classical.propDecidable _) (fun h=>some h.choose) fun _=>none⟩
theorem eO {f:FuncId} {R:List AV->Sto->CRes->Prop} (h:∀ args s res,R args s res->bO P f args s res):bM P (bG f R):=by
 intro args s res a;simp only [bG]at a;split at a
 ·rename_i b
  cases a;exact h _ _ _ b.choose_spec
 ·cases a
theorem oI {g b:Nat} {cs a:List AV} (h:aQ g cs=aQ b a):g=b/\cs=a:=by
 simp only [aQ,AObj.cells.injEq]at h;obtain ⟨c,e,d⟩:=h;refine ⟨c,List.ext_getElem? fun i=>?_⟩;rw [<-Tr.get_row cs i,<-Tr.get_row a i,d]
end
end Go.Abs
/-
 The abstract machine: calls that are run in place,and leave what was there as it was.
-/
namespace Go.Abs
noncomputable section
variable {P:Program} {O:cH} {H:dG}
end
end Go.Abs
/-
 The abstract machine: panics,interfaces,what is deferred and recovered.
-/
namespace Go.Abs
noncomputable section
variable {P:Program} {O:cH} {H:dG}
theorem XZ {op:Op} {e:Env} {K:ORes->Prop} {r:Option ORes} (h:∀ n,fC P (aR P O n) op e=r):fW P O op e K↔∃ x,r=some x/\K x:=by
 constructor
 ·rintro ⟨n,x,a,b⟩
  rw [h]at a;exact ⟨x,a,b⟩
 ·rintro ⟨x,a,b⟩
  exact ⟨0,x,by rw [h];exact a,b⟩
def ifK (P:Program) (t:TypeId):Bool:=match P.underlying t with
 | some (.interface _)=>false
 | some _=>true
 | none=>false
def aNc (P:Program) (t:TypeId) (v:AV):Option AV:=bif ifK P t then some (.iface t v) else none
theorem aHv {t:TypeId} {x:Operand} {e:Env} {K:ORes->Prop}:fW P O (.makeInterface t x) e K↔qE (aNc P t (e.eval x)) K:=by
 rw [XZ (r:=match P.underlying t with | some (.interface _)=>none | some _=>some (.val (.iface t (e.eval x))) | none=>none) fun _=>rfl];unfold aNc ifK qE
 cases h:P.underlying t with
 | none=>simp
 | some d=>cases d<;>simp
theorem MF {t:TypeId} {v:AV} (h:ifK P t=true):aNc P t v=some (.iface t v):=by simp [aNc,h]
def taV (P:Program) (v:AV) (t:TypeId) (z:Option AV):Option AV:=match v with
 | .iface d v=>bif Nat.beq d t then some (.tuple [v,.bool true]) else z.map fun z=>.tuple [z,.bool false]
 | _=>none
theorem aQt {x:Operand} {u t:TypeId} {e:Env} {K:ORes->Prop} (a:ifK P t=true) {d:TypeId} {v:AV} (h:e.eval x=.iface d v):fW P O (.typeAssert x u t true) e K↔qE (taV P (.iface d v) t (bF P t)) K:=by
 unfold ifK at a
 have f:∀ n,fC P (aR P O n) (.typeAssert x u t true) e=(taV P (.iface d v) t (bF P t)).map .val:=by
  intro n
  show (match P.underlying t,e.eval x with
   | some (.interface _),.nili=>bif true then (match bF P t with | some z=>some (ORes.val (.tuple [z,.bool false])) | none=>none) else none
   | some (.interface b),.iface d v=>match P.info? d with
     | some i=>bif qM b i.methods then (bif true then (match bF P t with | some z=>some (ORes.val (.tuple [z,.bool false])) | none=>none) else none)
      else some (.val (bif true then .tuple [.iface d v,.bool true] else .iface d v))
     | none=>none
   | some _,.nili=>bif true then (match bF P t with | some z=>some (ORes.val (.tuple [z,.bool false])) | none=>none) else none
   | some _,.iface d v=>bif Nat.beq d t then some (.val (bif true then .tuple [v,.bool true] else v))
    else bif true then (match bF P t with | some z=>some (ORes.val (.tuple [z,.bool false])) | none=>none) else none
   | _,_=>none)=_
  rw [h];unfold taV
  cases c:P.underlying t with
  | none=>rw [c]at a;cases a
  | some k=>
    rw [c]at a
    cases k<;>first | (cases a;done) | (simp only [cond_true];cases Nat.beq d t<;>simp;cases bF P t<;>rfl)
 rw [XZ f];unfold qE;cases taV P (.iface d v) t (bF P t)<;>simp
end
end Go.Abs
/-
 The abstract machine: appends to a row that is full;parts of slices with room.
-/
namespace Go.Abs
noncomputable section
def apG (s:Sto) (o:Option AObj) (g len k by_ n:Nat) (new:List AV):Option ORes:=match o with
 | some (.cells a m cs)=>bif Nat.beq g a&&Nat.ble (len*k) m then (match cs.row 0 (len*k) with
   | some old=>fR s k by_ old new (len+n)
   | none=>none) else none
 | _=>none
theorem aHw {s:Sto} {k by_ id g len c n:Nat} {new:List AV} (h:c<len+n):apF s k by_ (.sl id g 0 len (.is c)) (some (n,new))=apG s (s.get id) g len k by_ n new:=by
 have b:Nat.ble (len+n) c=false:=by
  cases e:Nat.ble (len+n) c with
  | false=>rfl
  | true=>have:=Nat.le_of_ble_eq_true e;omega
 have d:Nat.ble len len=true:=by simp
 simp only [apF,b,cond_false,gB,d,cond_true,apG,Nat.zero_add]
 cases s.get id with
 | none=>rfl
 | some o=>cases o with
   | cells a m cs=>
     simp only;cases Nat.beq g a&&Nat.ble (len*k) m<;>rfl
   | _=>rfl
theorem YB {s:Sto} {g len k by_ n:Nat} {cs new:List AV} (f:cs.length=len*k) (h:(2*(len+n)+1024)*by_<=281474976710656/\len+n<4611686018427387904) (d:cs.all AV.isCell=true) (e:new.all AV.isCell=true):
 apG s (some (aQ g cs)) g len k by_ n new=some (.val' (.sl s.n 0 0 (len+n) (.room k)) (s.push (ob (cs++new)))):=by
 have a:Nat.ble (len*k) cs.length=true:=by simp [f]
 have b:(Tr.leaf.lay 0 cs).row 0 (len*k)=some cs:=by rw [Tr.row_lay _ _ _ (by omega),FK (by omega)]
 have c:(cs++new).all AV.isCell=true:=by rw [List.all_append,d,e];rfl
 simp only [apG,aQ,Nat.beq_refl,a,Bool.and_self,cond_true,b,fR,uU h,rM,c,if_true]
theorem tM {k n:Nat}:cT k n n=.room k:=by simp [cT]
theorem MG {k id g off len:Nat} {j:IntKind} {a:Int} {d:Option AV} (b:0<=a) (e:a<len):FH (some k) (.sl id g off len (.room k)) (some (.int j a)) none none d=some (.sl id g (off+a.toNat*k) (len-a.toNat) (.room k)):=by
 have c:Nat.blt a.toNat len=true:=by simp;omega
 simp only [FH,oS,yE,CW b (show a<=(len:Int) by omega),Nat.beq_refl,c,cond_true,tM]
theorem UU {k id g off len:Nat} {j:IntKind} {b:Int} {d:Option AV} (a:0<=b) (c:b<=len) (f:0<len):FH (some k) (.sl id g off len (.room k)) none (some (.int j b)) none d=some (.sl id g off b.toNat (cT k b.toNat len)):=by
 have e:Nat.blt 0 len=true:=by simp;omega
 simp only [FH,oS,yE,CW a c,Nat.beq_refl,e,cond_true,Nat.zero_mul,Nat.add_zero,Nat.sub_zero]
theorem UV {P:Program} {s:Sto} {ts:Array TypeId} {k:IntKind} {a b:Int}:aY P s .min ts [.int k a,.int k b]=some (.val (.int k (if b<a then b else a))):=by
 have:aY P s .min ts [.int k a,.int k b]=valO (lY false [.int k a,.int k b]):=by
  unfold aY;cases h:ts[0]?<;>rfl
 rw [this];simp only [lY,rZ,decide_true,cond_true,cond_false,vE,valO]
theorem aHx {P:Program} {s:Sto} {ts:Array TypeId} {k:IntKind} {a b:Int}:aY P s .max ts [.int k a,.int k b]=some (.val (.int k (if b > a then b else a))):=by
 have:aY P s .max ts [.int k a,.int k b]=valO (lY true [.int k a,.int k b]):=by
  unfold aY;cases h:ts[0]?<;>rfl
 rw [this];simp only [lY,rZ,decide_true,cond_true,vE,valO]
section
variable {P:Program} {O:cH} {H:dG}
theorem PX {o:Option AV} {K a:ORes->Prop} (h:∀ r,K r->a r) (d:qE o K):qE o a:=by obtain ⟨v,b,c⟩:=d;exact ⟨v,b,h _ c⟩
theorem PY {o:Option Sto} {K a:ORes->Prop} (h:∀ r,K r->a r) (d:SA o K):SA o a:=by obtain ⟨v,b,c⟩:=d;exact ⟨v,b,h _ c⟩
theorem yC {o:Option ORes} {K a:ORes->Prop} (h:∀ r,K r->a r) (d:vS o K):vS o a:=by obtain ⟨v,b,c⟩:=d;exact ⟨v,b,h _ c⟩
theorem MH {K a:ORes->Prop} (h:∀ r,K r->a r):∀ r,vK K r->vK a r:=fun r b=>by cases r<;>first | exact h _ b | exact b.elim
theorem YC {n:Nat} {K b:ORes->Prop} (h:∀ r,K r->b r):∀ r,cK n K r->cK n b r:=fun r a=>by cases r<;>first | exact ⟨a.1,h _ a.2⟩ | exact a.elim
theorem aNd {F:Sto->Option ORes} {Y:Nat->Prop} {s:Sto} {K b:ORes->Prop} (h:∀ r,K r->b r):∀ r,cF F Y s K r->cF F Y s b r:=fun r a=>by cases r<;>first | exact ⟨a.1,h _ a.2⟩ | exact a.elim
theorem YD {kd:Nat} {Y:Nat->Prop} {op:Op} {e:Env} {K A:ORes->Prop} (h:∀ r,K r->A r) (d:sD P O kd Y op e K):sD P O kd Y op e A:=by
 have B:∀ {op:Op},fW P O op e K->fW P O op e A:=fun B=>by obtain ⟨n,r,u,w⟩:=B;exact ⟨n,r,u,h _ w⟩
 have J:∀ {F:Sto->Option CRes} {r:Option CRes} {t:Prop} {s:Sto},QI F r t s K->QI F r t s A:=by
  intro F r t s o
  match r,o with
  | some (.ret v none),o=>exact ⟨o.1,h _ o.2⟩
  | some (.ret v (some s')),o=>exact ⟨o.1,o.2.1,h _ o.2.2⟩
  | some (.pan v none),o=>exact ⟨o.1,h _ o.2⟩
  | some (.pan v (some s')),o=>exact ⟨o.1,o.2.1,h _ o.2.2⟩
  | none,o=>exact o.elim
 have E:∀ {C:AV} {args:List AV} {s:Sto},yJ P O kd C args s K->yJ P O kd C args s A:=by
  intro C args s o;unfold yJ at o ⊢;split
  ·exact J o
  ·refine ⟨o.1,o.2.mono fun res y=>?_⟩
   match res,y with
   | .ret v (some s'),y=>exact ⟨y.1,h _ y.2⟩
   | .pan v (some s'),y=>exact ⟨y.1,h _ y.2⟩
   | .ret v none,_=>trivial
   | .pan v none,_=>trivial
  ·rename_i u w
   split at o
   ·rename_i g a b;exact absurd rfl (u g a b)
   ·rename_i g a b;exact absurd rfl (w g a b)
   ·exact o.elim
 cases op with
 | load ty a=>exact ⟨d.1,PX h d.2⟩
 | lookup ty m k M=>exact ⟨d.1,PX h d.2⟩
 | convert L dst x=>exact ⟨d.1,yC (MH h) d.2⟩
 | store ty a x=>exact ⟨d.1,PY (YC h) d.2⟩
 | mapUpdate ty m k x=>exact ⟨d.1,PY (YC h) d.2⟩
 | alloc ty=>obtain ⟨v,u,w,D⟩:=d;exact ⟨v,u,w,h _ D⟩
 | box ty x=>obtain ⟨I,u,w,D⟩:=d;exact ⟨I,u,w,h _ D⟩
 | buildSlice ty len G=>exact ⟨d.1,B d.2⟩
 | makeSlice ty l c=>exact ⟨d.1,B d.2⟩
 | call c=>
   obtain ⟨q,args,ts⟩:=c
   cases q with
   | builtin b=>cases b<;>first | exact ⟨d.1,yC (MH h) d.2⟩ | exact yC (MH h) d | exact ⟨d.1,yC (aNd h) d.2⟩
   | value f=>exact E d
   | invoke _ _=>exact d.elim
 | _=>exact ⟨d.1,B d.2⟩
theorem aBp {dst:Option Tmp} {e:Env} {md:Bool} {n0:Nat} {X:Nat->Prop} {nw:Bool} {i:Nat} {N:List (Nat × Nat)} {next next':List (Nat × Nat)->Env->Prop} {f b:AV->Sto->Prop} (h:∀ N e,next N e->next' N e) (k:∀ v s,f v s->b v s):∀ r,AK dst e md n0 X nw i N next f r->AK dst e md n0 X nw i N next' b r:=fun r a=>by
 cases r with
 | val v=>obtain ⟨e',c,d⟩:=a;exact ⟨e',c,h _ _ d⟩
 | val' v s=>obtain ⟨l,e',c,d⟩:=a;exact ⟨l,e',c,h _ _ d⟩
 | pan v s=>exact ⟨a.1,k _ _ a.2⟩
 | _=>exact a.elim
theorem YE {qs ps:List Nat} {ops:List Oper} {c:Env} {Q f:Ex->Env->Prop} (m:∀ ex e,Q ex e->f ex e):∀ (rest:List Oper) (i:Nat) (N:List (Nat × Nat)) (e:Env),Wd P O qs ps ops c Q rest i N e->Wd P O qs ps ops c f rest i N e
 | [],i,N,e,h=>m _ _ h
 | o::rest,i,N,e,h=>by
   have y:∀ v s,QJ ops c Q i v s->QJ ops c f i v s:=fun v s a=>⟨a.1,m _ _ a.2⟩
   have k:=aBp (dst:=o.dst) (e:=e) (md:=YS ps i o.op) (n0:=nD ps c.s.n) (X:=xD ps) (nw:=dT o.op) (i:=i) (N:=N) (next:=Wd P O qs ps ops c Q rest (i+1)) (next':=Wd P O qs ps ops c f rest (i+1)) (fun N e a=>YE m rest (i+1) N e a) y;unfold Wd at h ⊢
   cases q:o.guard with
   | none=>rw [q]at h;exact YD k h
   | some g=>
     obtain ⟨j,r⟩:=g;rw [q]at h;simp only at h ⊢;unfold tW at h ⊢;split
     ·rename_i b d
      rw [d]at h;exact ⟨fun a=>YD k (h.1 a),fun a=>k _ (h.2 a)⟩
     ·rename_i l d
      rw [d]at h;exact k _ h
     ·rename_i u w
      split at h
      ·rename_i b d;exact absurd d (u b)
      ·rename_i l d;exact absurd d (w l)
      ·exact h.elim
theorem Wk.mono:∀ {c:Code} {H:dG} {e:Env} {Q k:Ex->Env->Prop},(∀ ex e,Q ex e->k ex e)->Wk P O H c e Q->Wk P O H c e k:=by
 intro c
 induction c with
 | skip=>intro H e Q k d h;exact d _ _ h
 | label l=>intro H e Q k d h;exact d _ _ h
 | region i ops v=>
   intro H e Q k d h
   cases v with
   | false=>obtain ⟨n,ex,e',w,A⟩:=h;exact ⟨n,ex,e',w,d _ _ A⟩
   | true=>exact ⟨h.1,h.2.1,YE d _ _ _ _ h.2.2⟩
 | seq a b o B=>
   intro H e Q k d h;refine o (fun ex e' u=>?_) h
   cases ex with
   | normal=>exact B d u
   | _=>exact d _ _ u
 | cond q x y C D=>
   intro H e Q k d h
   rcases h with ⟨w,A⟩ | ⟨w,A⟩
   ·exact .inl ⟨w,C d A⟩
   ·exact .inr ⟨w,D d A⟩
 | block id a o=>
   intro H e Q k d h;refine o (fun ex e' u=>?_) h
   cases ex with
   | exit j=>
     have r:(bif Nat.beq j id then Q .normal e' else Q (.exit j) e'):=u;show (bif Nat.beq j id then k .normal e' else k (.exit j) e')
     cases E:Nat.beq j id with
     | true=>rw [E]at r;exact d _ _ r
     | false=>rw [E]at r;exact d _ _ r
   | _=>exact d _ _ u
 | loop a o=>
   intro H e Q k d h;obtain ⟨α,I,m,x,G,L⟩:=h;refine ⟨α,I,m,x,G,fun a e J=>(L a e J).imp fun M F=>o (fun ex e' u=>?_) F⟩
   cases ex with
   | normal=>exact u
   | _=>exact d _ _ u
 | scope a o=>intro H e Q k d h;exact o d h
 | exit id=>intro H e Q k d h;exact d _ _ h
 | ret=>intro H e Q k d h;exact d _ _ h
 | rangeFunc f ps a b=>intro H e Q k d h;exact W.mono h d
 | _=>intro H e Q k d h;exact h.elim
def aOw (id:Nat) (M:Env->Prop) (Q:Ex->Env->Prop):Ex->Env->Prop:=fun ex e=>match ex with
 | .exit j=>if j=id then M e else Q (.exit j) e
 | ex=>Q ex e
@[congr] theorem aOx {id:Nat} {M:Env->Prop} {Q:Ex->Env->Prop} {x x':Ex} {e e':Env} (h:x=x') (h':e=e'):aOw id M Q x e=aOw id M Q x' e':=by rw [h,h']
end
end
end Go.Abs
