/-
  The abstract machine: calls that turn objects of their caller, and return what is frozen.
-/
import Derived.Test.YthakciolcdlphaaGreatEp
set_option linter.unusedVariables false
set_option linter.unusedSimpArgs false
namespace Go.Abs
noncomputable section
variable {P:Program} {O:bN} {H:cJ}
theorem lF {σ:Sg} {n:Nat} (hσ:∀ id g x,σ id g=some x->id<n) {a:AV} {V:Value} (h:VR σ a V):Und n a:=by
 induction h with
 | top V=>exact aGk
 | bool b=>exact aJ
 | int k m=>exact aT
 | str l s hs=>exact mO
 | nilp=>exact JW
 | ptr id g off b base sz hs=>
   intro τ V hv
   cases hv with | ptr _ _ _ b base sz hs'=>exact .ptr _ _ _ _ _ _ (show τ.cut n id g=some (b,base,sz) by simp [Sg.cut,hσ _ _ _ hs,hs'])
 | pf v b off h1 h2 ih=>
   refine aKc fun y hy=>?_
   obtain ⟨i,hi⟩:=List.getElem?_of_mem hy
   have hil:=(List.getElem?_eq_some_iff.1 hi).1
   obtain ⟨W,hW⟩:=Option.isSome_iff_exists.1 (h2 i hil)
   exact ih i y W hi hW
 | nils=>exact fA
 | sl id g off len cap b base sz C hs hl hc=>
   intro τ V hv
   cases hv with | sl _ _ _ _ _ b base sz C hs' hl' hc'=>exact .sl _ _ _ _ _ _ _ _ _ (show τ.cut n id g=some (b,base,sz) by simp [Sg.cut,hσ _ _ _ hs,hs']) hl' hc'
 | fz l clip a C b off k h1 h2 h3 h4 h5 h6 ih=>
   refine aBa fun x hx y hy=>?_
   obtain ⟨i,hi⟩:=List.getElem?_of_mem hx
   obtain ⟨j,hj⟩:=List.getElem?_of_mem hy
   have hil:=(List.getElem?_eq_some_iff.1 hi).1
   have hjl:j<k:=by rw [<-h4 x hx];exact (List.getElem?_eq_some_iff.1 hj).1
   obtain ⟨W,hW⟩:=Option.isSome_iff_exists.1 (h6 i j hil hjl)
   exact ih i j x y W hi hj hW
 | nilm=>exact aAy
 | map id b base sz hs=>
   intro τ V hv
   cases hv with | map _ b base sz hs'=>exact .map _ _ _ _ (show τ.cut n id 0=some (b,base,sz) by simp [Sg.cut,hσ _ _ _ hs,hs'])
 | func f F a c A C hF e1 e2 e3 e4 ih3 ih4=>
   intro τ V hv
   cases hv with
   | func _ F' _ _ A' C' hF' g1 g2 g3 g4=>
     refine .func _ _ _ _ _ _ ?_ g1 g2 (fun i x X q1 q2=>?_) (fun i x X q1 q2=>?_)
     ·cases hF with
      | func f=>cases hF';exact .func f
      | method m=>cases hF';exact .method m
      | methodOf t m=>cases hF';exact .methodOf t m
      | via t p f b=>cases hF';exact .via t p f b
      | yield l b base sz hs=>cases hF' with | yield _ b' base' sz' hs'=>exact .yield _ _ _ _ (show τ.cut n l 0=some (b',base',sz') by simp [Sg.cut,hσ _ _ _ hs,hs'])
     ·have hi:i<A.size:=by rw [<-e1];exact (List.getElem?_eq_some_iff.1 q1).1
      exact ih3 i x A[i] q1 (by simp [hi]) τ X (g3 i x X q1 q2)
     ·have hi:i<C.size:=by rw [<-e2];exact (List.getElem?_eq_some_iff.1 q1).1
      exact ih4 i x C[i] q1 (by simp [hi]) τ X (g4 i x X q1 q2)
 | nilf=>exact aAz
 | iface t v V _ ih=>exact UZ ih
 | nili=>intro τ V hv;cases hv;exact .nili
 | agg xs ys e1 e2 ih=>
   refine RN fun x hx=>?_
   obtain ⟨i,hi⟩:=List.getElem?_of_mem hx
   have hil:i<ys.size:=by rw [<-e1];exact (List.getElem?_eq_some_iff.1 hi).1
   exact ih i x ys[i] hi (by simp [hil])
 | tuple xs ys e1 e2 ih=>
   refine lH fun x hx=>?_
   obtain ⟨i,hi⟩:=List.getElem?_of_mem hx
   have hil:i<ys.size:=by rw [<-e1];exact (List.getElem?_eq_some_iff.1 hi).1
   exact ih i x ys[i] hi (by simp [hil])
def aJn (n:Nat) (x:AObj):Prop:=∀ (τ:Sg) base sz o,ObjR τ base sz x o->ObjR (τ.cut n) base sz x o
theorem aFk {σ:Sg} {n:Nat} (hσ:∀ id g x,σ id g=some x->id<n) {x:AObj} {base sz:Nat} {o:Obj} (h:ObjR σ base sz x o):aJn n x:=by
 have hd0:∀ (d:ADef) (D:Deferred),DefR σ d D->∀ (τ:Sg) (D':Deferred),DefR τ d D'->DefR (τ.cut n) d D':=by
  intro d D hD τ D' hD'
  cases hD with
  | call f F first cap args A C q1 q2 q3=>
    cases hD' with
    | call _ F' _ _ _ A' C' p1 p2 p3=>
      refine .call _ _ _ _ _ _ _ ?_ ⟨p2.1,fun i x X k1 k2=>?_⟩ ⟨p3.1,fun i x X k1 k2=>?_⟩
      ·cases q1 with
       | func f=>cases p1;exact .func f
       | method m=>cases p1;exact .method m
       | methodOf t m=>cases p1;exact .methodOf t m
       | via t p f b=>cases p1;exact .via t p f b
       | yield l b base sz hs=>cases p1 with | yield _ b' base' sz' hs'=>exact .yield _ _ _ _ (show τ.cut n l 0=some (b',base',sz') by simp [Sg.cut,hσ _ _ _ hs,hs'])
      ·have hi:i<C.toList.length:=by rw [<-q2.1];exact (List.getElem?_eq_some_iff.1 k1).1
       exact lF hσ (q2.2 i x _ k1 (List.getElem?_eq_getElem hi)) τ X (p2.2 i x X k1 k2)
      ·have hi:i<A.toList.length:=by rw [<-q3.1];exact (List.getElem?_eq_some_iff.1 k1).1
       exact lF hσ (q3.2 i x _ k1 (List.getElem?_eq_getElem hi)) τ X (p3.2 i x X k1 k2)
  | collected id b base sz hs=>
    cases hD' with
    | collected _ b' base' sz' hs'=>exact .collected _ _ _ _ (show τ.cut n id 0=some (b',base',sz') by simp [Sg.cut,hσ _ _ _ hs,hs'])
 intro τ base' sz' o' h'
 cases h with
 | cells g m c arr el fr h1 h2 h3 h4=>
   cases h' with
   | cells _ _ _ arr' el' fr' g1 g2 g3 g4=>
     refine .cells _ _ _ _ _ _ g1 g2 (fun i a hi ha=>?_) g4
     obtain ⟨V0,_,hv0⟩:=h3 i a hi ha
     obtain ⟨V,e,hv⟩:=g3 i a hi ha
     exact ⟨V,e,lF hσ hv0 τ V hv⟩
 | map es ck ES h1 h2=>
   cases h' with
   | map _ _ ES' g1 g2=>
     refine .map _ _ _ g1 fun i k v b E e1 e2=>?_
     have hi:i<ES.size:=by rw [<-h1];exact (List.getElem?_eq_some_iff.1 e1).1
     obtain ⟨k1,k2,_⟩:=h2 i k v b ES[i] e1 (by simp [hi])
     obtain ⟨p1,p2,p3⟩:=g2 i k v b E e1 e2
     exact ⟨lF hσ k1 τ _ p1,lF hσ k2 τ _ p2,p3⟩
 | siter s pos bs h1 h2=>cases h' with | siter _ _ bs' g1 g2=>exact .siter _ _ _ g1 g2
 | loop st pe fn nt t ps a b d T PS db dbase dsz h1 h2 h3=>
   cases h' with
   | loop _ _ _ _ _ _ _ _ _ T' PS' db' dbase' dsz' g1 g2 g3=>
     exact .loop _ _ _ _ _ _ _ _ _ _ _ _ _ _ ⟨g1.1,fun i v hv=>⟨(g1.2 i v hv).1,lF hσ (h1.2 i v hv).2 τ _ (g1.2 i v hv).2⟩⟩ g2 (show τ.cut n d 0=some (db',dbase',dsz') by simp [Sg.cut,hσ _ _ _ h3,g3])
 | defsN=>cases h';exact .defsN
 | defsS ds Ds h1=>
   cases h' with
   | defsS _ Ds' g1=>
     refine .defsS _ _ ?_
     clear base sz
     induction h1 generalizing Ds' with
     | nil=>cases g1;exact .nil
     | cons d D ds Ds q1 q2 ih=>
       cases g1 with
       | cons _ D' _ Ds'' p1 p2=>exact .cons _ _ _ _ (hd0 d D q1 τ D' p1) (ih _ p2)
theorem JH {s S s':Sto} {v v':AV} (hn:s'.n=s.n) (hl1:s'.low<=s.low) (hl2:s'.low<=S.low) (ht:(∀ id,s.n<=id->s.o.get id=none)->∀ id,s'.n<=id->s'.o.get id=none) (hg:∀ id,id<s.n->s'.get id=S.get id)
 (hu:∀ id,id<s.n->S.get id=s.get id∨∀ x,S.get id=some x->aJn s.n x) (hf:Frz S s.n v v'):pE s S v v' (some s'):=by
 intro σ τ w w' h hs
 let NW:Nat->Prop:=fun b=>∃ id x base sz,s.n<=id/\S.get id=some x/\τ id (cN x)=some (b,base,sz)
 let M:Nat->Nat->Option Value:=fun b off=>match τ.m b off with
  | some V=>some V
  | none=>@ite _ (NW b) (Classical.propDecidable _) (w'.cell? ⟨b,off,none⟩) none
 have hM:∀ b off V,τ.m b off=some V->M b off=some V:=fun b off V hV=>by simp [M,hV]
 have hMn:∀ b off,NW b->M b off=w'.cell? ⟨b,off,none⟩:=fun b off hb=>by
  simp only [M]
  cases hc:τ.m b off with
  | some V=>simp only;exact (hs.rel.mu b off V hc).1.symm
  | none=>simp only [hb,if_true]
 have hMc:∀ b off V,M b off=some V->τ.m b off=some V∨(NW b/\w'.cell? ⟨b,off,none⟩=some V):=fun b off V hV=>by
  simp only [M]at hV
  split at hV
  ·rename_i W hW;cases hV;exact .inl hW
  ·split at hV
   ·rename_i hb;exact .inr ⟨hb,hV⟩
   ·cases hV
 let ρ:Sg:=⟨M,(τ.cut s.n).s⟩
 have hle:(τ.cut s.n).le ρ:=⟨fun _ _ _ h=>h,hM⟩
 have hρ:∀ id g,id<s.n->ρ id g=τ id g:=fun id g hid=>by
  show (τ.cut s.n).s id g=_
  simp only [Sg.cut];rw [if_pos hid]
 have hρ':∀ id g y,ρ id g=some y->id<s.n/\τ id g=some y:=fun id g y hy=>by
  have hy':(τ.cut s.n).s id g=some y:=hy
  simp only [Sg.cut]at hy'
  split at hy'
  ·rename_i hid;exact ⟨hid,hy'⟩
  ·cases hy'
 have hlt:∀ id x,s'.get id=some x->id<s.n/\S.get id=some x:=fun id x hx=>by
  have:id<s.n:=by rw [<-hn];exact Sto.get_lt hx
  exact ⟨this,by rw [<-hg id this];exact hx⟩
 have hHas:∀ b,Has ρ s' b->Has τ S b/\¬ NW b:=by
  rintro b ⟨id,x,base,sz,h1,h2⟩
  obtain ⟨q1,q2⟩:=hlt id x h1
  rw [hρ id _ q1]at h2
  refine ⟨⟨id,x,base,sz,q2,h2⟩,?_⟩
  rintro ⟨id',x',base',sz',k1,k2,k3⟩
  have:=hs.rel.inj id x id' x' b base sz base' sz' q2 k2 h2 k3
  omega
 have hrel:Rel ρ s' w':={
  obj:=fun id x hx=>by
   obtain ⟨q1,q2⟩:=hlt id x hx
   obtain ⟨b,base,sz,o,k1,k2,k3⟩:=hs.rel.obj id x q2
   refine ⟨b,base,sz,o,by rw [hρ id _ q1];exact k1,k2,?_⟩
   have hU:aJn s.n x:=by
    rcases hu id q1 with h1 | h1
    ·rw [h1]at q2
     obtain ⟨_,_,_,_,_,_,p3⟩:=h.obj id x q2
     exact aFk (fun id g y hy=>h.bnd id g y hy) p3
    ·exact h1 x q2
   exact (hU τ base sz o k3).mono hle
  inj:=fun id x id' x' b base sz base' sz' h1 h2 h3 h4=>by
   obtain ⟨q1,q2⟩:=hlt id x h1
   obtain ⟨r1,r2⟩:=hlt id' x' h2
   exact hs.rel.inj id x id' x' b base sz base' sz' q2 r2 (by rw [<-hρ id _ q1];exact h3) (by rw [<-hρ id' _ r1];exact h4)
  mu:=fun b off V hV=>by
   rcases hMc b off V hV with h1 | ⟨h1,h2⟩
   ·exact ⟨(hs.rel.mu b off V h1).1,fun hh=>(hs.rel.mu b off V h1).2 (hHas b hh).1⟩
   ·exact ⟨h2,fun hh=>(hHas b hh).2 h1⟩
  bnd:=fun id g y hy=>by rw [hn];exact (hρ' id g y hy).1
  gen:=fun id x g y h1 h2=>hs.rel.gen id x g y (hlt id x h1).2 (hρ' id g y h2).2
  top:=ht h.top}
 refine ⟨ρ,⟨hrel,⟨fun id g y hy=>?_,fun b off V hV=>hM _ _ _ (hs.ext.m _ _ _ hV)⟩,hs.size,hs.frame,fun b hb=>hs.own b (hHas b hb).1,by rw [hn];exact Nat.le_refl _,hl1,fun id h1 h2=>?_,hs.os,hs.out,hs.tape,fun id h1 h2=>?_,fun b off V hV=>?_⟩,?_⟩
 ·rw [hρ id g (h.bnd id g y hy)];exact hs.ext _ _ _ hy
 ·obtain ⟨k1,k2,k3⟩:=hs.keep id h1 (Nat.lt_of_lt_of_le h2 hl2)
  exact ⟨by rw [hg id h1];exact k1,fun g=>by rw [hρ id g h1];exact k2 g,k3⟩
 ·obtain ⟨k1,k2⟩:=hs.hole id h1 h2
  exact ⟨by rw [hg id h1];exact k1,fun g=>by rw [hρ id g h1];exact k2 g⟩
 ·rcases hMc b off V hV with k1 | ⟨⟨id,x,base,sz,k1,k2,k3⟩,k4⟩
  ·exact hs.mnew b off V k1
  ·rcases hs.own b ⟨id,x,base,sz,k2,k3⟩ with q | q
   ·exact .inr (.inl q)
   ·exact .inr (.inr q)
 ·induction hf with
  | und v hu=>exact fun V hV=>(hu τ V hV).mono hle
  | agg l l' hl _ ih=>
    intro V hV
    cases hV with
    | agg _ ys e1 e2=>
      refine .agg _ _ (by rw [<-hl];exact e1) fun i y Y g1 g2=>?_
      have hi:i<l.length:=by rw [hl];exact (List.getElem?_eq_some_iff.1 g1).1
      exact ih i l[i] y (List.getElem?_eq_getElem hi) g1 Y (e2 i _ Y (List.getElem?_eq_getElem hi) g2)
  | tuple l l' hl _ ih=>
    intro V hV
    cases hV with
    | tuple _ ys e1 e2=>
      refine .tuple _ _ (by rw [<-hl];exact e1) fun i y Y g1 g2=>?_
      have hi:i<l.length:=by rw [hl];exact (List.getElem?_eq_some_iff.1 g1).1
      exact ih i l[i] y (List.getElem?_eq_getElem hi) g1 Y (e2 i _ Y (List.getElem?_eq_getElem hi) g2)
  | func f a a' c c' hla hlc _ _ iha ihc=>
    intro V hV
    cases hV with
    | func _ F _ _ A C hF e1 e2 e3 e4=>
      refine .func _ _ _ _ _ _ (by cases hF;exact .func f) (by rw [<-hla];exact e1) (by rw [<-hlc];exact e2) (fun i y Y g1 g2=>?_) (fun i y Y g1 g2=>?_)
      ·have hi:i<a.length:=by rw [hla];exact (List.getElem?_eq_some_iff.1 g1).1
       exact iha i a[i] y (List.getElem?_eq_getElem hi) g1 Y (e3 i _ Y (List.getElem?_eq_getElem hi) g2)
      ·have hi:i<c.length:=by rw [hlc];exact (List.getElem?_eq_some_iff.1 g1).1
       exact ihc i c[i] y (List.getElem?_eq_getElem hi) g1 Y (e4 i _ Y (List.getElem?_eq_getElem hi) g2)
  | sl id g off len cap m k c l a hid hg hl hm hk ha _ ih=>
    intro V hV
    cases hV with
    | sl _ _ _ _ _ b base sz C hsg hlen hcap=>
      obtain ⟨b',base',sz',o,g1,g2,g3⟩:=hs.rel.obj id _ hg
      have g1':τ id g=some (b',base',sz'):=g1
      rw [hsg]at g1'
      obtain ⟨rfl,rfl,rfl⟩:b=b'/\base=base'/\sz=sz':=by simpa using g1'
      have hb:∃ id x base sz,s.n<=id/\S.get id=some x/\τ id (cN x)=some (b,base,sz):=⟨id,_,base,sz,hid,hg,g1⟩
      cases g3 with
      | cells _ _ _ arr el fr q1 q2 q3 q4=>
        have hcell:∀ j,j<m->w'.cell? ⟨b,base+j,none⟩=arr[base+j]?:=fun j hj=>by simp [World.cell?,g2]
        have hin:∀ i j,i<l.length->j<k->off+i*k+j<m:=by
         intro i j hi hj
         have:i*k+k<=len*k:=by
          rw [<-Nat.succ_mul];exact Nat.mul_le_mul_right k (by omega)
         omega
        subst hl
        refine .fz l false ⟨b,base+off,none⟩ C b (base+off) k (fun _=>rfl) hlen (fun hc=>by cases hc) hk (fun i j x y W e1 e2 e3=>?_) (fun i j hi hj=>?_)
        ·have hi:=(List.getElem?_eq_some_iff.1 e1).1
         have hj:j<k:=by rw [<-hk x (List.mem_of_getElem? e1)];exact (List.getElem?_eq_some_iff.1 e2).1
         obtain ⟨W',e4,e5⟩:=q3 _ (a i j) (hin i j hi hj) (ha i j x y e1 e2)
         have e6:M b (base+off+i*k+j)=some W:=e3
         rw [hMn _ _ hb,show base+off+i*k+j=base+(off+i*k+j) by omega,hcell _ (hin i j hi hj),e4]at e6
         cases e6
         exact ih i j x y e1 e2 W e5
        ·show (M b (base+off+i*k+j)).isSome=true
         rw [hMn _ _ hb,show base+off+i*k+j=base+(off+i*k+j) by omega,hcell _ (hin i j hi hj)]
         have:=hin i j hi hj
         rw [Array.getElem?_eq_getElem (show base+(off+i*k+j)<arr.size by omega)];rfl
  | ptr id g off m c v a hid hg hm ha _ ih=>
    intro V hV
    cases hV with
    | ptr _ _ _ b base sz hsg=>
      obtain ⟨b',base',sz',o,g1,g2,g3⟩:=hs.rel.obj id _ hg
      have g1':τ id g=some (b',base',sz'):=g1
      rw [hsg]at g1'
      obtain ⟨rfl,rfl,rfl⟩:b=b'/\base=base'/\sz=sz':=by simpa using g1'
      have hb:∃ id x base sz,s.n<=id/\S.get id=some x/\τ id (cN x)=some (b,base,sz):=⟨id,_,base,sz,hid,hg,g1⟩
      cases g3 with
      | cells _ _ _ arr el fr q1 q2 q3 q4=>
        have hcell:∀ j,j<m->w'.cell? ⟨b,base+j,none⟩=arr[base+j]?:=fun j hj=>by simp [World.cell?,g2]
        refine .pf v b (base+off) (fun j y W e2 e3=>?_) (fun j hj=>?_)
        ·have hj:=(List.getElem?_eq_some_iff.1 e2).1
         obtain ⟨W',e4,e5⟩:=q3 _ (a j) (by omega) (ha j y e2)
         have e6:M b (base+off+j)=some W:=e3
         rw [hMn _ _ hb,show base+off+j=base+(off+j) by omega,hcell _ (by omega),e4]at e6
         cases e6
         exact ih j y e2 W e5
        ·show (M b (base+off+j)).isSome=true
         rw [hMn _ _ hb,show base+off+j=base+(off+j) by omega,hcell _ (by omega)]
         rw [Array.getElem?_eq_getElem (show base+(off+j)<arr.size by omega)];rfl
def bJ (f:FuncId) (R:List AV->Sto->CRes->Prop):kL:=⟨f,fun args s=>@dite _ (∃ res,R args s res) (Classical.propDecidable _) (fun h=>some h.choose) fun _=>none⟩
theorem iI {f:FuncId} {R:List AV->Sto->CRes->Prop} (h:∀ args s res,R args s res->bH P f args s res):bS P (bJ f R):=by
 intro args s res hr
 simp only [bJ]at hr
 split at hr
 ·rename_i hx
  cases hr
  exact h _ _ _ hx.choose_spec
 ·cases hr
theorem mJ {g g':Nat} {cs cs':List AV} (h:aU g cs=aU g' cs'):g=g'/\cs=cs':=by
 simp only [aU,AObj.cells.injEq]at h
 obtain ⟨h1,h2,h3⟩:=h
 refine ⟨h1,List.ext_getElem? fun i=>?_⟩
 rw [<-Tr.get_row cs i,<-Tr.get_row cs' i,h3]
end
end Go.Abs
/-
 The abstract machine: calls that are run in place,and leave what was there as it was.
-/
namespace Go.Abs
noncomputable section
variable {P:Program} {O:bN} {H:cJ}
def RetS (P:Program) (O:bN) (fv:AV) (args:List AV) (s:Sto) (v:AV):Prop:=∃ so,Sim s (so.getD s)/\∃ n rr,aO P O n fv args s .no=some (.ret v so,rr)
theorem RetS.of {fv:AV} {args:List AV} {s:Sto} {v:AV} (h:Wcall P O fv args s fun res=>∃ so,res=.ret v so/\Sim s (so.getD s)):RetS P O fv args s v:=by
 obtain ⟨n,res,rr,h1,so,rfl,h2⟩:=h
 exact ⟨so,h2,n,rr,h1⟩
def aOz (P:Program) (rs:List ResultVar) (v:AV) (s:Sto):Ex->Env->Prop
 | .normal,e=>e.ds=[]/\e.r=.no/\sX (aP P e rs) (fun S r=>r=v/\Sim s S) e.s
 | .ret,e=>e.ds=[]/\e.r=.no/\sX (aP P e rs) (fun S r=>r=v/\Sim s S) e.s
 | _,_=>False
theorem RetS.run {g:FuncId} {first cap args:List AV} {s:Sto} {v:AV} {fn:Func} {c:Code} {N:Nat} {rs:List ResultVar} (H:cJ) (ho:O g (first++args++cap) s=none) (hok:okFn P g=true) (hf:P.funcs[g]?=some fn) (hn:fn.ntmps=N) (hr:fn.results=rs.toArray) (hb:fn.body=some c)
 (ha:Nat.ble (first++args++cap).length N=true) (h:Wk P O H c ⟨N,none,g,Tr.leaf.lay 0 (first++args++cap),[],⟨s.n,s.n,s.o⟩,.no⟩ (aOz P rs v s)):RetS P O (.func (.func g) first cap) args s v:=by
 refine .of (sE ho hok hf hb ?_)
 have he:BE fn g (first++args++cap) s .no=⟨N,none,g,Tr.leaf.lay 0 (first++args++cap),[],⟨s.n,s.n,s.o⟩,.no⟩:=fN hn ha
 rw [he]
 refine h.sound.mono fun ex e hq=>?_
 have key:e.ds=[]/\e.r=.no/\sX (aP P e rs) (fun S r=>r=v/\Sim s S) e.s->Lv P O fn none e (clR s fun res _=>∃ so,res=.ret v so/\Sim s (so.getD s)):=by
  rintro ⟨h1,h2,vs,h3,rfl,h4⟩
  refine nF h1 (by rw [hr];exact h3) ⟨_,rfl,?_⟩
  exact iK s _ e (fun S=>Sim s S) (fun _ _ a b=>b.trans a) h4 (.inr (Sim.refl s))
 cases ex with
 | normal=>exact key hq
 | ret=>exact key hq
 | _=>exact hq.elim
end
end Go.Abs
/-
 The abstract machine: panics,interfaces,what is deferred and recovered.
-/
namespace Go.Abs
noncomputable section
variable {P:Program} {O:bN} {H:cJ}
theorem QW {op:Op} {e:Env} {K:ORes->Prop} {r:Option ORes} (h:∀ n,dR P (aO P O n) op e=r):dH P O op e K↔∃ x,r=some x/\K x:=by
 constructor
 ·rintro ⟨n,x,h1,h2⟩
  rw [h]at h1
  exact ⟨x,h1,h2⟩
 ·rintro ⟨x,h1,h2⟩
  exact ⟨0,x,by rw [h];exact h1,h2⟩
def ifK (P:Program) (t:TypeId):Bool:=match P.underlying t with
 | some (.interface _)=>false
 | some _=>true
 | none=>false
def aFl (P:Program) (t:TypeId) (v:AV):Option AV:=bif ifK P t then some (.iface t v) else none
theorem aAb {t:TypeId} {x:Operand} {e:Env} {K:ORes->Prop}:dH P O (.makeInterface t x) e K↔lV (aFl P t (e.eval x)) K:=by
 rw [QW (r:=match P.underlying t with | some (.interface _)=>none | some _=>some (.val (.iface t (e.eval x))) | none=>none) fun _=>rfl]
 unfold aFl ifK lV
 cases h:P.underlying t with
 | none=>simp
 | some d=>cases d<;>simp
theorem GE {t:TypeId} {v:AV} (h:ifK P t=true):aFl P t v=some (.iface t v):=by simp [aFl,h]
def taV (P:Program) (v:AV) (t:TypeId) (z:Option AV):Option AV:=match v with
 | .iface d v=>bif Nat.beq d t then some (.tuple [v,.bool true]) else z.map fun z=>.tuple [z,.bool false]
 | _=>none
theorem aJo {x:Operand} {u t:TypeId} {e:Env} {K:ORes->Prop} (hi:ifK P t=true) {d:TypeId} {v:AV} (h:e.eval x=.iface d v):dH P O (.typeAssert x u t true) e K↔lV (taV P (.iface d v) t (aX P t)) K:=by
 unfold ifK at hi
 have hr:∀ n,dR P (aO P O n) (.typeAssert x u t true) e=(taV P (.iface d v) t (aX P t)).map .val:=by
  intro n
  show (match P.underlying t,e.eval x with
   | some (.interface _),.nili=>bif true then (match aX P t with | some z=>some (ORes.val (.tuple [z,.bool false])) | none=>none) else none
   | some (.interface want),.iface d v=>match P.info? d with
     | some i=>bif oO want i.methods then (bif true then (match aX P t with | some z=>some (ORes.val (.tuple [z,.bool false])) | none=>none) else none)
      else some (.val (bif true then .tuple [.iface d v,.bool true] else .iface d v))
     | none=>none
   | some _,.nili=>bif true then (match aX P t with | some z=>some (ORes.val (.tuple [z,.bool false])) | none=>none) else none
   | some _,.iface d v=>bif Nat.beq d t then some (.val (bif true then .tuple [v,.bool true] else v))
    else bif true then (match aX P t with | some z=>some (ORes.val (.tuple [z,.bool false])) | none=>none) else none
   | _,_=>none)=_
  rw [h]
  unfold taV
  cases hu:P.underlying t with
  | none=>rw [hu]at hi;cases hi
  | some td=>
    rw [hu]at hi
    cases td<;>first | (cases hi;done) | (simp only [cond_true];cases Nat.beq d t<;>simp;cases aX P t<;>rfl)
 rw [QW hr]
 unfold lV
 cases taV P (.iface d v) t (aX P t)<;>simp
end
end Go.Abs
/-
 The abstract machine: appends to a row that is full;parts of slices with room.
-/
namespace Go.Abs
noncomputable section
def apG (s:Sto) (o:Option AObj) (g len k by_ n:Nat) (new:List AV):Option ORes:=match o with
 | some (.cells g' m cs)=>bif Nat.beq g g'&&Nat.ble (len*k) m then (match cs.row 0 (len*k) with
   | some old=>eS s k by_ old new (len+n)
   | none=>none) else none
 | _=>none
theorem GF {s:Sto} {k by_ id g len c n:Nat} {new:List AV} (h:c<len+n):apF s k by_ (.sl id g 0 len (.is c)) (some (n,new))=apG s (s.get id) g len k by_ n new:=by
 have h1:Nat.ble (len+n) c=false:=by
  cases hb:Nat.ble (len+n) c with
  | false=>rfl
  | true=>have:=Nat.le_of_ble_eq_true hb;omega
 have h2:Nat.ble len len=true:=by simp
 simp only [apF,h1,cond_false,dI,h2,cond_true,apG,Nat.zero_add]
 cases s.get id with
 | none=>rfl
 | some o=>cases o with
   | cells g' m cs=>
     simp only
     cases Nat.beq g g'&&Nat.ble (len*k) m<;>rfl
   | _=>rfl
theorem zE {s:Sto} {g len k by_ n:Nat} {cs new:List AV} (hl:cs.length=len*k) (hr:(2*(len+n)+1024)*by_<=281474976710656/\len+n<4611686018427387904) (h1:cs.all AV.isCell=true) (h2:new.all AV.isCell=true):
 apG s (some (aU g cs)) g len k by_ n new=some (.val' (.sl s.n 0 0 (len+n) (.room k)) (s.push (ob (cs++new)))):=by
 have g1:Nat.ble (len*k) cs.length=true:=by simp [hl]
 have g2:(Tr.leaf.lay 0 cs).row 0 (len*k)=some cs:=by rw [Tr.row_lay _ _ _ (by omega),BI (by omega)]
 have g3:(cs++new).all AV.isCell=true:=by rw [List.all_append,h1,h2];rfl
 simp only [apG,aU,Nat.beq_refl,g1,Bool.and_self,cond_true,g2,eS,sG hr,mQ,g3,if_true]
theorem yA {k n:Nat}:eP k n n=.room k:=by simp [eP]
theorem aJp {k id g off len:Nat} {j:IntKind} {b:Int} {d:Option AV} (h0:0<=b) (h1:b<=len) (h2:0<len):OA (some k) (.sl id g off len (.room k)) none (some (.int j b)) none d=some (.sl id g off b.toNat (eP k b.toNat len)):=by
 have hb:Nat.blt 0 len=true:=by simp;omega
 simp only [OA,pR,lR,kW h0 h1,Nat.beq_refl,hb,cond_true,Nat.zero_mul,Nat.add_zero,Nat.sub_zero]
theorem aJq {P:Program} {s:Sto} {ts:Array TypeId} {k:IntKind} {a b:Int}:aV P s .min ts [.int k a,.int k b]=some (.val (.int k (if b<a then b else a))):=by
 have:aV P s .min ts [.int k a,.int k b]=valO (kG false [.int k a,.int k b]):=by
  unfold aV
  cases h:ts[0]?<;>rfl
 rw [this]
 simp only [kG,pU,decide_true,cond_true,cond_false,sR,valO,jP]
theorem aAc {P:Program} {s:Sto} {ts:Array TypeId} {k:IntKind} {a b:Int}:aV P s .max ts [.int k a,.int k b]=some (.val (.int k (if b > a then b else a))):=by
 have:aV P s .max ts [.int k a,.int k b]=valO (kG true [.int k a,.int k b]):=by
  unfold aV
  cases h:ts[0]?<;>rfl
 rw [this]
 simp only [kG,pU,decide_true,cond_true,cond_false,sR,valO,jP]
section
variable {P:Program} {O:bN} {H:cJ}
theorem JI {o:Option AV} {K K':ORes->Prop} (h:∀ r,K r->K' r) (hk:lV o K):lV o K':=by obtain ⟨v,h1,h2⟩:=hk;exact ⟨v,h1,h _ h2⟩
theorem JJ {o:Option Sto} {K K':ORes->Prop} (h:∀ r,K r->K' r) (hk:KG o K):KG o K':=by obtain ⟨v,h1,h2⟩:=hk;exact ⟨v,h1,h _ h2⟩
theorem uV {o:Option ORes} {K K':ORes->Prop} (h:∀ r,K r->K' r) (hk:qI o K):qI o K':=by obtain ⟨v,h1,h2⟩:=hk;exact ⟨v,h1,h _ h2⟩
theorem GG {K K':ORes->Prop} (h:∀ r,K r->K' r):∀ r,vK K r->vK K' r:=fun r hk=>by cases r<;>first | exact h _ hk | exact hk.elim
theorem QX {n:Nat} {K K':ORes->Prop} (h:∀ r,K r->K' r):∀ r,cK n K r->cK n K' r:=fun r hk=>by cases r<;>first | exact ⟨hk.1,h _ hk.2⟩ | exact hk.elim
theorem aFm {F:Sto->Option ORes} {Y:Nat->Prop} {s:Sto} {K K':ORes->Prop} (h:∀ r,K r->K' r):∀ r,cF F Y s K r->cF F Y s K' r:=fun r hk=>by cases r<;>first | exact ⟨hk.1,h _ hk.2⟩ | exact hk.elim
theorem QY {kd:Nat} {Y:Nat->Prop} {op:Op} {e:Env} {K K':ORes->Prop} (h:∀ r,K r->K' r) (hk:sD P O kd Y op e K):sD P O kd Y op e K':=by
 have hw:∀ {op:Op},dH P O op e K->dH P O op e K':=fun hw=>by obtain ⟨n,r,h1,h2⟩:=hw;exact ⟨n,r,h1,h _ h2⟩
 have ho:∀ {F:Sto->Option CRes} {r:Option CRes} {t:Prop} {s:Sto},CU F r t s K->CU F r t s K':=by
  intro F r t s hx
  match r,hx with
  | some (.ret v none),hx=>exact ⟨hx.1,h _ hx.2⟩
  | some (.ret v (some s')),hx=>exact ⟨hx.1,hx.2.1,h _ hx.2.2⟩
  | some (.pan v none),hx=>exact ⟨hx.1,h _ hx.2⟩
  | some (.pan v (some s')),hx=>exact ⟨hx.1,hx.2.1,h _ hx.2.2⟩
  | none,hx=>exact hx.elim
 have hcd:∀ {fv:AV} {args:List AV} {s:Sto},tE P O kd fv args s K->tE P O kd fv args s K':=by
  intro fv args s hx
  unfold tE at hx ⊢
  split
  ·exact ho hx
  ·refine ⟨hx.1,hx.2.mono fun res hr=>?_⟩
   match res,hr with
   | .ret v (some s'),hr=>exact ⟨hr.1,h _ hr.2⟩
   | .pan v (some s'),hr=>exact ⟨hr.1,h _ hr.2⟩
   | .ret v none,_=>trivial
   | .pan v none,_=>trivial
  ·rename_i h1 h2
   split at hx
   ·rename_i g a b;exact absurd rfl (h1 g a b)
   ·rename_i g a b;exact absurd rfl (h2 g a b)
   ·exact hx.elim
 cases op with
 | load ty a=>exact ⟨hk.1,JI h hk.2⟩
 | lookup ty m k ok=>exact ⟨hk.1,JI h hk.2⟩
 | convert src dst x=>exact ⟨hk.1,uV (GG h) hk.2⟩
 | store ty a x=>exact ⟨hk.1,JJ (QX h) hk.2⟩
 | mapUpdate ty m k x=>exact ⟨hk.1,JJ (QX h) hk.2⟩
 | alloc ty=>obtain ⟨v,h1,h2,h3⟩:=hk;exact ⟨v,h1,h2,h _ h3⟩
 | box ty x=>obtain ⟨h0,h1,h2,h3⟩:=hk;exact ⟨h0,h1,h2,h _ h3⟩
 | buildSlice ty len parts=>exact ⟨hk.1,hw hk.2⟩
 | makeSlice ty l c=>exact ⟨hk.1,hw hk.2⟩
 | call c=>
   obtain ⟨callee,args,ts⟩:=c
   cases callee with
   | builtin b=>cases b<;>first | exact ⟨hk.1,uV (GG h) hk.2⟩ | exact uV (GG h) hk | exact ⟨hk.1,uV (aFm h) hk.2⟩
   | value f=>exact hcd hk
   | invoke _ _=>exact hk.elim
 | _=>exact ⟨hk.1,hw hk.2⟩
theorem UD {dst:Option Tmp} {e:Env} {md:Bool} {n0:Nat} {X:Nat->Prop} {nw:Bool} {i:Nat} {N:List (Nat × Nat)} {next next':List (Nat × Nat)->Env->Prop} {pn pn':AV->Sto->Prop} (h:∀ N e,next N e->next' N e) (h':∀ v s,pn v s->pn' v s):∀ r,tW dst e md n0 X nw i N next pn r->tW dst e md n0 X nw i N next' pn' r:=fun r hk=>by
 cases r with
 | val v=>obtain ⟨e',h1,h2⟩:=hk;exact ⟨e',h1,h _ _ h2⟩
 | val' v s=>obtain ⟨h0,e',h1,h2⟩:=hk;exact ⟨h0,e',h1,h _ _ h2⟩
 | pan v s=>exact ⟨hk.1,h' _ _ hk.2⟩
 | _=>exact hk.elim
theorem QZ {qs ps:List Nat} {ops:List Oper} {e0:Env} {Q Q':Ex->Env->Prop} (hQ:∀ ex e,Q ex e->Q' ex e):∀ (rest:List Oper) (i:Nat) (N:List (Nat × Nat)) (e:Env),Wd P O qs ps ops e0 Q rest i N e->Wd P O qs ps ops e0 Q' rest i N e
 | [],i,N,e,h=>hQ _ _ h
 | o::rest,i,N,e,h=>by
   have hp:∀ v s,GQ ops e0 Q i v s->GQ ops e0 Q' i v s:=fun v s hx=>⟨hx.1,hQ _ _ hx.2⟩
   have hm:=UD (dst:=o.dst) (e:=e) (md:=GP ps i o.op) (n0:=nD ps e0.s.n) (X:=xD ps) (nw:=cO o.op) (i:=i) (N:=N) (next:=Wd P O qs ps ops e0 Q rest (i+1)) (next':=Wd P O qs ps ops e0 Q' rest (i+1)) (fun N e hx=>QZ hQ rest (i+1) N e hx) hp
   unfold Wd at h ⊢
   cases hg:o.guard with
   | none=>rw [hg]at h;exact QY hm h
   | some g=>
     obtain ⟨j,want⟩:=g
     rw [hg]at h
     simp only at h ⊢
     unfold fM at h ⊢
     split
     ·rename_i b hb
      rw [hb]at h
      exact ⟨fun hx=>QY hm (h.1 hx),fun hx=>hm _ (h.2 hx)⟩
     ·rename_i l hb
      rw [hb]at h
      exact hm _ h
     ·rename_i h1 h2
      split at h
      ·rename_i b hb;exact absurd hb (h1 b)
      ·rename_i l hb;exact absurd hb (h2 l)
      ·exact h.elim
theorem Wk.mono:∀ {c:Code} {H:cJ} {e:Env} {Q Q':Ex->Env->Prop},(∀ ex e,Q ex e->Q' ex e)->Wk P O H c e Q->Wk P O H c e Q':=by
 intro c
 induction c with
 | skip=>intro H e Q Q' hQ h;exact hQ _ _ h
 | label l=>intro H e Q Q' hQ h;exact hQ _ _ h
 | region i ops draw=>
   intro H e Q Q' hQ h
   cases draw with
   | false=>obtain ⟨n,ex,e',h1,h2⟩:=h;exact ⟨n,ex,e',h1,hQ _ _ h2⟩
   | true=>exact ⟨h.1,h.2.1,QZ hQ _ _ _ _ h.2.2⟩
 | seq a b iha ihb=>
   intro H e Q Q' hQ h
   refine iha (fun ex e' hx=>?_) h
   cases ex with
   | normal=>exact ihb hQ hx
   | _=>exact hQ _ _ hx
 | cond q x y ihx ihy=>
   intro H e Q Q' hQ h
   rcases h with ⟨h1,h2⟩ | ⟨h1,h2⟩
   ·exact .inl ⟨h1,ihx hQ h2⟩
   ·exact .inr ⟨h1,ihy hQ h2⟩
 | block id a iha=>
   intro H e Q Q' hQ h
   refine iha (fun ex e' hx=>?_) h
   cases ex with
   | exit j=>
     have hx':(bif Nat.beq j id then Q .normal e' else Q (.exit j) e'):=hx
     show (bif Nat.beq j id then Q' .normal e' else Q' (.exit j) e')
     cases hb:Nat.beq j id with
     | true=>rw [hb]at hx';exact hQ _ _ hx'
     | false=>rw [hb]at hx';exact hQ _ _ hx'
   | _=>exact hQ _ _ hx
 | loop a iha=>
   intro H e Q Q' hQ h
   obtain ⟨α,I,m,x,h0,hs⟩:=h
   refine ⟨α,I,m,x,h0,fun a e hI=>(hs a e hI).imp fun H' h'=>iha (fun ex e' hx=>?_) h'⟩
   cases ex with
   | normal=>exact hx
   | _=>exact hQ _ _ hx
 | scope a iha=>intro H e Q Q' hQ h;exact iha hQ h
 | exit id=>intro H e Q Q' hQ h;exact hQ _ _ h
 | ret=>intro H e Q Q' hQ h;exact hQ _ _ h
 | rangeFunc f ps a b=>intro H e Q Q' hQ h;exact W.mono h hQ
 | _=>intro H e Q Q' hQ h;exact h.elim
def aHy (id:Nat) (M:Env->Prop) (Q:Ex->Env->Prop):Ex->Env->Prop:=fun ex e=>match ex with
 | .exit j=>if j=id then M e else Q (.exit j) e
 | ex=>Q ex e
@[congr] theorem aHz {id:Nat} {M:Env->Prop} {Q:Ex->Env->Prop} {x x':Ex} {e e':Env} (h:x=x') (h':e=e'):aHy id M Q x e=aHy id M Q x' e':=by rw [h,h']
end
end
end Go.Abs
