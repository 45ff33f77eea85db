/-
  The abstract machine: calls that borrow what they are given; types of frozen values, contracts by types.
-/
import Derived.Test.YthakciolcdlphaaGreatEt
import Derived.Test.YthakciolcdlphaaGreatEm
set_option linter.unusedVariables false
set_option linter.unusedSimpArgs false
namespace Go.Abs
noncomputable section
variable {P:Program}
def sgA (w:World):Sg:=⟨fun b off=>w.cell? ⟨b,off,none⟩,fun _ _=>none⟩
theorem aMv {σ:Sg} {S:Sto} {w:World} (hrel:Rel σ S w) {v v':AV} (hf:Frz S 0 v v'):∀ V,VR σ v V->VR (sgA w) v' V:=by
 have hle:(σ.cut 0).le (sgA w):=⟨fun id g x hx=>(by
  have:(σ.cut 0).s id g=some x:=hx
  simp only [Sg.cut]at this
  rw [if_neg (by omega)]at this;cases this),fun b off V hV=>(hrel.mu b off V hV).1⟩
 induction hf with
 | und v hu=>exact fun V hV=>(hu σ V hV).mono hle
 | agg l l' hl _ ih=>
   intro V hV
   cases hV with
   | agg _ ys e1 e2=>
     refine .agg _ _ (by rw [<-hl];exact e1) fun i y Y g1 g2=>?_
     have hi:i<l.length:=by rw [hl];exact (List.getElem?_eq_some_iff.1 g1).1
     exact ih i l[i] y (List.getElem?_eq_getElem hi) g1 Y (e2 i _ Y (List.getElem?_eq_getElem hi) g2)
 | tuple l l' hl _ ih=>
   intro V hV
   cases hV with
   | tuple _ ys e1 e2=>
     refine .tuple _ _ (by rw [<-hl];exact e1) fun i y Y g1 g2=>?_
     have hi:i<l.length:=by rw [hl];exact (List.getElem?_eq_some_iff.1 g1).1
     exact ih i l[i] y (List.getElem?_eq_getElem hi) g1 Y (e2 i _ Y (List.getElem?_eq_getElem hi) g2)
 | func f a a' c c' hla hlc _ _ iha ihc=>
   intro V hV
   cases hV with
   | func _ F _ _ A C hF e1 e2 e3 e4=>
     refine .func _ _ _ _ _ _ (by cases hF;exact .func f) (by rw [<-hla];exact e1) (by rw [<-hlc];exact e2) (fun i y Y g1 g2=>?_) (fun i y Y g1 g2=>?_)
     ·have hi:i<a.length:=by rw [hla];exact (List.getElem?_eq_some_iff.1 g1).1
      exact iha i a[i] y (List.getElem?_eq_getElem hi) g1 Y (e3 i _ Y (List.getElem?_eq_getElem hi) g2)
     ·have hi:i<c.length:=by rw [hlc];exact (List.getElem?_eq_some_iff.1 g1).1
      exact ihc i c[i] y (List.getElem?_eq_getElem hi) g1 Y (e4 i _ Y (List.getElem?_eq_getElem hi) g2)
 | sl id g off len cap m k c l a hid hg hl hm hk ha _ ih=>
   intro V hV
   cases hV with
   | sl _ _ _ _ _ b base sz C hsg hlen hcap=>
     obtain ⟨b',base',sz',o,g1,g2,g3⟩:=hrel.obj id _ hg
     have g1':σ id g=some (b',base',sz'):=g1
     rw [hsg]at g1'
     obtain ⟨rfl,rfl,rfl⟩:b=b'/\base=base'/\sz=sz':=by simpa using g1'
     cases g3 with
     | cells _ _ _ arr el fr q1 q2 q3 q4=>
       have hcell:∀ j,j<m->w.cell? ⟨b,base+j,none⟩=arr[base+j]?:=fun j hj=>by simp [World.cell?,g2]
       have hin:∀ i j,i<l.length->j<k->off+i*k+j<m:=by
        intro i j hi hj
        have:i*k+k<=len*k:=by
         rw [<-Nat.succ_mul];exact Nat.mul_le_mul_right k (by omega)
        omega
       subst hl
       refine .fz l false ⟨b,base+off,none⟩ C b (base+off) k (fun _=>rfl) hlen (fun hc=>by cases hc) hk (fun i j x y W e1 e2 e3=>?_) (fun i j hi hj=>?_)
       ·have hi:=(List.getElem?_eq_some_iff.1 e1).1
        have hj:j<k:=by rw [<-hk x (List.mem_of_getElem? e1)];exact (List.getElem?_eq_some_iff.1 e2).1
        obtain ⟨W',e4,e5⟩:=q3 _ (a i j) (hin i j hi hj) (ha i j x y e1 e2)
        have e6:w.cell? ⟨b,base+off+i*k+j,none⟩=some W:=e3
        rw [show base+off+i*k+j=base+(off+i*k+j) by omega,hcell _ (hin i j hi hj),e4]at e6
        cases e6
        exact ih i j x y e1 e2 W e5
       ·show (w.cell? ⟨b,base+off+i*k+j,none⟩).isSome=true
        rw [show base+off+i*k+j=base+(off+i*k+j) by omega,hcell _ (hin i j hi hj)]
        have:=hin i j hi hj
        rw [Array.getElem?_eq_getElem (show base+(off+i*k+j)<arr.size by omega)];rfl
 | ptr id g off m c v a hid hg hm ha _ ih=>
   intro V hV
   cases hV with
   | ptr _ _ _ b base sz hsg=>
     obtain ⟨b',base',sz',o,g1,g2,g3⟩:=hrel.obj id _ hg
     have g1':σ id g=some (b',base',sz'):=g1
     rw [hsg]at g1'
     obtain ⟨rfl,rfl,rfl⟩:b=b'/\base=base'/\sz=sz':=by simpa using g1'
     cases g3 with
     | cells _ _ _ arr el fr q1 q2 q3 q4=>
       have hcell:∀ j,j<m->w.cell? ⟨b,base+j,none⟩=arr[base+j]?:=fun j hj=>by simp [World.cell?,g2]
       refine .pf v b (base+off) (fun j y W e2 e3=>?_) (fun j hj=>?_)
       ·have hj:=(List.getElem?_eq_some_iff.1 e2).1
        obtain ⟨W',e4,e5⟩:=q3 _ (a j) (by omega) (ha j y e2)
        have e6:w.cell? ⟨b,base+off+j,none⟩=some W:=e3
        rw [show base+off+j=base+(off+j) by omega,hcell _ (by omega),e4]at e6
        cases e6
        exact ih j y e2 W e5
       ·show (w.cell? ⟨b,base+off+j,none⟩).isSome=true
        rw [show base+off+j=base+(off+j) by omega,hcell _ (by omega)]
        rw [Array.getElem?_eq_getElem (show base+(off+j)<arr.size by omega)];rfl
def aMw (v:AV):Prop:=∀ (σ τ:Sg) V,VR σ v V->VR τ v V
theorem lP {b:Bool}:aMw (.bool b):=fun _ _ _ h=>by cases h;exact .bool b
def FrzL (s:Sto):List AV->List AV->Prop
 | [],[]=>True
 | a::l,a'::l'=>Frz s 0 a a'/\FrzL s l l'
 | _,_=>False
theorem FrzL.get {s:Sto}:∀ {l l':List AV},FrzL s l l'->l.length=l'.length/\∀ (i:Nat) x y,l[i]?=some x->l'[i]?=some y->Frz s 0 x y
 | [],[],_=>⟨rfl,fun i x y h=>by simp at h⟩
 | [],_::_,h=>h.elim
 | _::_,[],h=>h.elim
 | a::l,a'::l',h=>by
   obtain ⟨q1,q2⟩:=FrzL.get h.2
   refine ⟨by simp [q1],fun i x y e1 e2=>?_⟩
   cases i with
   | zero=>simp at e1 e2;subst e1;subst e2;exact h.1
   | succ i=>exact q2 i x y (by simpa using e1) (by simpa using e2)
theorem oY {f:FuncId} {args args':List AV} {v:AV} (h:Returns P f args' v) (hv:aMw v) {s:Sto} (hf:FrzL s args args'):bH P f args s (.ret v none):=by
 obtain ⟨hl,hg⟩:=hf.get
 obtain ⟨hok,fn,hfn,hd⟩:=h .empty
 refine ⟨hok,fn,hfn,fun σ w A kd stk m hrel0 ha hstk hrm=>?_⟩
 have hrel:Rel (sgA w) Sto.empty w:=
  {obj:=fun id x hx=>(by rw [Sto.empty_get]at hx;cases hx),inj:=fun id x id' x' b base sz base' sz' hx=>(by rw [Sto.empty_get]at hx;cases hx),
   mu:=fun b off V hV=>⟨hV,fun ⟨id,x,base,sz,hx,_⟩=>(by rw [Sto.empty_get]at hx;cases hx)⟩,
   bnd:=fun id g x hx=>(by cases hx),gen:=fun id x g y hx=>(by rw [Sto.empty_get]at hx;cases hx),top:=fun id _=>rfl}
 have hrm':RM (sgA w) kd .no m:=by cases hrm with
  | normal m=>exact .normal m
  | quiet=>exact .quiet
 have ha':VRs (sgA w) args' A.toList:=⟨by rw [<-hl];exact ha.1,fun i x X h1 h2=>by
  have hi:i<args.length:=by rw [hl];exact (List.getElem?_eq_some_iff.1 h1).1
  exact aMv hrel0 (hg i args[i] x (List.getElem?_eq_getElem hi) h1) X (ha.2 i _ X (List.getElem?_eq_getElem hi) h2)⟩
 obtain ⟨τ,V,w',fr,m',q1,q2,q9,q3⟩:=hd (sgA w) w A kd stk m hrel ha' hstk hrm'
 refine ⟨σ,V,w',fr,m',hv τ σ V q1,⟨q2.q,⟨fun _ _ _ h=>h,fun _ _ _ h=>h⟩,rfl,fun b off V hV=>.inl hV⟩,?_,q3⟩
 cases q9 with
 | normal m=>exact .normal _
 | quiet=>exact .quiet
theorem GB {S:Sto} {c:Nat} {v:AV} {cs:List AV} (hg:S.get c=some (aU 0 cs)) (hv:v.cells=cs) (hu:∀ x∈cs,Und 0 x):Frz S 0 (.ptr c 0 0) (.pf v):=by
 refine aFu (Nat.zero_le _) hg (by rw [hv];omega) fun j x y hx hy=>?_
 rw [hv]at hy
 rw [Nat.zero_add,hy]at hx
 cases hx
 exact .und _ (hu _ (List.mem_of_getElem? hy))
theorem kV {S:Sto} {c:Nat} {v:AV} {cs:List AV} {f:FuncId} (hg:S.get c=some (aU 0 cs)) (hv:v.cells=cs) (hu:∀ x∈cs,Und 0 x):Frz S 0 (.func (.func f) [] [.ptr c 0 0]) (.func (.func f) [] [.pf v]):=
 .func f _ _ _ _ rfl rfl (fun i x y h=>by simp at h) (pB (GB hg hv hu) yE)
theorem oA {cs:List AV} {k:Nat} (h:cs.length=k):aZ cs 0 k=cs:=by unfold aZ;rw [List.drop_zero,List.take_of_length_le (by omega)]
def entB (f:FuncId) (D:List AV->Sto->Prop) (g:List AV->AV):kL:=(f,fun args s=>@ite _ (D args s) (Classical.propDecidable _) (some (.ret (g args) none)) none)
theorem entB_ok {f:FuncId} {D:List AV->Sto->Prop} {g:List AV->AV} (h:∀ args s,D args s->bH P f args s (.ret (g args) none)):bS P (entB f D g):=by
 intro args s res hr
 simp only [entB]at hr
 split at hr
 ·rename_i hd;cases hr;exact h _ _ hd
 ·cases hr
theorem gZ {f:FuncId} {D:List AV->Sto->Prop} {g:List AV->AV} {L:List kL} {args:List AV} {s:Sto} (h:D args s):orcL (entB f D g::L) f args s=some (.ret (g args) none):=by
 rw [entB,sJ]
 exact if_pos h
def onL (fv:AV) (D:AV->Prop) (S:Sto->Prop):List AV->Sto->Prop
 | [a,b],s=>b=fv/\D a/\S s
 | _,_=>False
def _root_.Go.Abs.AV.els:AV->List AV
 | .fz xs _=>xs
 | _=>[]
def _root_.Go.Abs.AV.num:AV->Int
 | .int _ n=>n
 | _=>0
def _root_.Go.Abs.AV.fld (k:Nat):AV->AV
 | .agg l=>l.getD k .top
 | _=>.top
def _root_.Go.Abs.AV.txt:AV->List Nat
 | .str l=>l
 | _=>[]
theorem Sl.els {a:AV} {xs:List AV} (h:Sl a xs):a.els=xs:=by
 rcases h.1 with ⟨rfl,rfl⟩ | ⟨c,rfl⟩<;>rfl
def cI (a:AV):Prop:=∃ n,a=.int .i64 n
def ZZ (a:AV):Prop:=∃ b,a=.bool b
def qG (a:AV):Prop:=∃ l,a=.str l/\l.length<9223372036854775808/\By l
def TSl (T:AV->Prop) (a:AV):Prop:=∃ xs,Sl a xs/\∀ x∈xs,T x
def T2 (A B:AV->Prop) (a:AV):Prop:=∃ x y,a=.agg [x,y]/\A x/\B y
def T3 (A B C:AV->Prop) (a:AV):Prop:=∃ x y z,a=.agg [x,y,z]/\A x/\B y/\C z
def T4 (A B C D:AV->Prop) (a:AV):Prop:=∃ x y z u,a=.agg [x,y,z,u]/\A x/\B y/\C z/\D u
def T5 (A B C D E:AV->Prop) (a:AV):Prop:=∃ x y z u v,a=.agg [x,y,z,u,v]/\A x/\B y/\C z/\D u/\E v
def Tu (T:AV->Prop):Prop:=∀ a,T a->UnderE 0 a/\a.isCell=true
def Tk (k:Nat) (T:AV->Prop):Prop:=∀ a,T a->UnderE 0 a/\∃ cs,a=.agg cs/\cs.length=k/\cs.all AV.isCell=true
theorem tu_int:Tu cI:=fun a ⟨n,h⟩=>by subst h;exact ⟨⟨1,rfl⟩,rfl⟩
theorem QV:Tu ZZ:=fun a ⟨n,h⟩=>by subst h;exact ⟨⟨1,rfl⟩,rfl⟩
theorem tu_str:Tu qG:=fun a ⟨n,h,_⟩=>by subst h;exact ⟨⟨1,rfl⟩,rfl⟩
theorem iH {T:AV->Prop} (h:∀ a,T a->UnderE 0 a):Tu (TSl T):=fun a ⟨xs,hs,hx⟩=>⟨rF hs fun x hm=>h x (hx x hm),hs.cell⟩
theorem AZ {T:AV->Prop} (h:Tu T):∀ a,T a->UnderE 0 a:=fun a ha=>(h a ha).1
theorem jE {T:AV->Prop} {k:Nat} (h:Tk k T):∀ a,T a->UnderE 0 a:=fun a ha=>(h a ha).1
theorem tk2 {A B:AV->Prop} (ha:Tu A) (hb:Tu B):Tk 2 (T2 A B):=fun a ⟨x,y,h,h1,h2⟩=>by
 subst h
 refine ⟨eM fun z hz=>?_,_,rfl,rfl,?_⟩
 ·simp at hz;rcases hz with rfl | rfl
  ·exact (ha _ h1).1
  ·exact (hb _ h2).1
 ·simp [(ha _ h1).2,(hb _ h2).2]
theorem tk3 {A B C:AV->Prop} (ha:Tu A) (hb:Tu B) (hc:Tu C):Tk 3 (T3 A B C):=fun a ⟨x,y,z,h,h1,h2,h3⟩=>by
 subst h
 refine ⟨eM fun z hz=>?_,_,rfl,rfl,?_⟩
 ·simp at hz;rcases hz with rfl | rfl | rfl
  ·exact (ha _ h1).1
  ·exact (hb _ h2).1
  ·exact (hc _ h3).1
 ·simp [(ha _ h1).2,(hb _ h2).2,(hc _ h3).2]
theorem tk4 {A B C D:AV->Prop} (ha:Tu A) (hb:Tu B) (hc:Tu C) (hd:Tu D):Tk 4 (T4 A B C D):=fun a ⟨x,y,z,u,h,h1,h2,h3,h4⟩=>by
 subst h
 refine ⟨eM fun z hz=>?_,_,rfl,rfl,?_⟩
 ·simp at hz;rcases hz with rfl | rfl | rfl | rfl
  ·exact (ha _ h1).1
  ·exact (hb _ h2).1
  ·exact (hc _ h3).1
  ·exact (hd _ h4).1
 ·simp [(ha _ h1).2,(hb _ h2).2,(hc _ h3).2,(hd _ h4).2]
theorem tk5 {A B C D E:AV->Prop} (ha:Tu A) (hb:Tu B) (hc:Tu C) (hd:Tu D) (he:Tu E):Tk 5 (T5 A B C D E):=fun a ⟨x,y,z,u,v,h,h1,h2,h3,h4,h5⟩=>by
 subst h
 refine ⟨eM fun z hz=>?_,_,rfl,rfl,?_⟩
 ·simp at hz;rcases hz with rfl | rfl | rfl | rfl | rfl
  ·exact (ha _ h1).1
  ·exact (hb _ h2).1
  ·exact (hc _ h3).1
  ·exact (hd _ h4).1
  ·exact (he _ h5).1
 ·simp [(ha _ h1).2,(hb _ h2).2,(hc _ h3).2,(hd _ h4).2,(he _ h5).2]
def tB (A:AV->Prop) (g:AV->AV):List AV->Option AV
 | [a]=>@ite _ (A a) (Classical.propDecidable _) (some (g a)) none
 | _=>none
def wW (R:AV->AV->Prop) (g:AV->AV->AV):List AV->Option AV
 | [a,b]=>@ite _ (R a b) (Classical.propDecidable _) (some (g a b)) none
 | _=>none
def sg3 (R:AV->AV->AV->Prop) (g:AV->AV->AV->AV):List AV->Option AV
 | [a,b,c]=>@ite _ (R a b c) (Classical.propDecidable _) (some (g a b c)) none
 | _=>none
def sg4 (R:AV->AV->AV->AV->Prop) (g:AV->AV->AV->AV->AV):List AV->Option AV
 | [a,b,c,d]=>@ite _ (R a b c d) (Classical.propDecidable _) (some (g a b c d)) none
 | _=>none
theorem cR {A:AV->Prop} {g:AV->AV} {a:AV} (h:A a):tB A g [a]=some (g a):=if_pos h
theorem sg2_eq {R:AV->AV->Prop} {g:AV->AV->AV} {a b:AV} (h:R a b):wW R g [a,b]=some (g a b):=if_pos h
theorem oZ {R:AV->AV->AV->Prop} {g:AV->AV->AV->AV} {a b c:AV} (h:R a b c):sg3 R g [a,b,c]=some (g a b c):=if_pos h
theorem GC {R:AV->AV->AV->AV->Prop} {g:AV->AV->AV->AV->AV} {a b c d:AV} (h:R a b c d):sg4 R g [a,b,c,d]=some (g a b c d):=if_pos h
theorem yR {f:FuncId} {A:AV->Prop} {g:AV->AV} (h:∀ a,A a->Returns P f [a] (g a)):Ok P f (tB A g):=fun args v hg=>by
 match args,hg with
 | [a],hg=>
   simp only [tB]at hg
   split at hg
   ·rename_i hr;cases hg;exact h _ hr
   ·cases hg
theorem ok2 {f:FuncId} {R:AV->AV->Prop} {g:AV->AV->AV} (h:∀ a b,R a b->Returns P f [a,b] (g a b)):Ok P f (wW R g):=fun args v hg=>by
 match args,hg with
 | [a,b],hg=>
   simp only [wW]at hg
   split at hg
   ·rename_i hr;cases hg;exact h _ _ hr
   ·cases hg
theorem ok3 {f:FuncId} {R:AV->AV->AV->Prop} {g:AV->AV->AV->AV} (h:∀ a b c,R a b c->Returns P f [a,b,c] (g a b c)):Ok P f (sg3 R g):=fun args v hg=>by
 match args,hg with
 | [a,b,c],hg=>
   simp only [sg3]at hg
   split at hg
   ·rename_i hr;cases hg;exact h _ _ _ hr
   ·cases hg
theorem ok4 {f:FuncId} {R:AV->AV->AV->AV->Prop} {g:AV->AV->AV->AV->AV} (h:∀ a b c d,R a b c d->Returns P f [a,b,c,d] (g a b c d)):Ok P f (sg4 R g):=fun args v hg=>by
 match args,hg with
 | [a,b,c,d],hg=>
   simp only [sg4]at hg
   split at hg
   ·rename_i hr;cases hg;exact h _ _ _ _ hr
   ·cases hg
theorem Tk.len {k:Nat} {D:AV->Prop} (h:Tk k D) {x:AV} (hx:D x):x.cells.length=k:=by
 obtain ⟨_,cs,rfl,hl,_⟩:=h x hx;exact hl
theorem Tu.len {D:AV->Prop} (h:Tu D) {x:AV} (hx:D x):x.cells.length=1:=by
 rw [jO (h x hx).2];rfl
theorem Tk.pf {k:Nat} {D:AV->Prop} (h:Tk k D) {x:AV} (hx:D x) {d:Option AV}:UO (some (some k)) x d=some x:=by
 obtain ⟨_,cs,rfl,hl,_⟩:=h x hx;exact RG hl
theorem Tu.pf {D:AV->Prop} (h:Tu D) {x:AV} (hx:D x) {d:Option AV}:UO (some none) x d=some x:=RF (h x hx).2
theorem wX {k:Nat} {xs:List AV} {i:Nat} {x:AV} (hx:xs[i]?=some x) (hk:x.cells.length=k) {q:IntKind} {d:Option AV}:tU (some k) xs (.int q ((i:Nat):Int)) d=some (.pf x):=by
 have hi:=(List.getElem?_eq_some_iff.1 hx).1
 exact RJ (by omega) (by omega) (by rw [Int.toNat_natCast];exact hx) hk
theorem GD {k:Nat} {xs:List AV} {n:Int} {x:AV} (h0:0<=n) (hx:xs[n.toNat]?=some x) (hk:x.cells.length=k) {q:IntKind} {d:Option AV}:tU (some k) xs (.int q n) d=some (.pf x):=by
 have hi:=(List.getElem?_eq_some_iff.1 hx).1
 exact RJ h0 (by omega) hx hk
theorem bK {k:Nat} {D:AV->Prop} {xs:List AV} (hk:∀ x,D x->x.cells.length=k) (hx:∀ x∈xs,D x) (hl:xs.length<=9223372036854775807) {i:Nat} (hi:i<xs.length):
 ∃ x,D x/\x∈xs/\xs[i]?=some x/\xs.drop i=x::xs.drop (i+1)/\(∀ {q:IntKind} {d:Option AV},tU (some k) xs (.int q ((i:Nat):Int)) d=some (.pf x))/\IntKind.i64.wrap ((i:Int)+1)=((i+1:Nat):Int)/\(((i:Nat):Int)<((xs.length:Nat):Int))=True:=by
 have hm:=List.getElem_mem hi
 have hg:=List.getElem?_eq_getElem hi
 exact ⟨xs[i],hx _ hm,hm,hg,List.drop_eq_getElem_cons hi,fun {q d}=>wX hg (hk _ (hx _ hm)),by rw [IntWalk.i64_in _ (by omega)];rfl,eq_true (by omega)⟩
theorem bG {xs:List AV}:(((xs.length:Nat):Int)<((xs.length:Nat):Int))=False:=eq_false (by omega)
def aAa (g:FuncId) (first cap:List AV) (D:AV->Prop) (p:AV->AV):kL:=UK (ι:={x // D x}) g (fun x=>first++[x.1]++cap) fun x=>p x.1
theorem zD {g:FuncId} {first cap:List AV} {D:AV->Prop} {p:AV->AV} (h:∀ x,D x->Returns P g (first++[x]++cap) (p x)):bS P (aAa g first cap D p):=RC fun x=>h x.1 x.2
theorem oB {g:FuncId} {first cap:List AV} {D:AV->Prop} {p:AV->AV} {L:List kL} {x:AV} {s:Sto} (hx:D x):orcL (aAa g first cap D p::L) g (first++[x]++cap) s=some (.ret (p x) none):=
 entF_same (A:=fun x:{x // D x}=>first++[x.1]++cap) (V:=fun x=>p x.1) (fun i j h=>by
  have h':first++[i.1]++cap=first++[j.1]++cap:=h
  have:=List.append_cancel_left (List.append_cancel_right h')
  simp only [List.cons.injEq,and_true]at this
  show p i.1=p j.1
  rw [this]) ⟨x,hx⟩
def qX (p:AV->Bool):List AV->Nat->Int
 | [],_=>-1
 | x::l,i=>if p x=true then (i:Nat) else qX p l (i+1)
theorem BA (p:AV->Bool):∀ (l:List AV) (i:Nat),decide (0<=qX p l i)=l.any p
 | [],i=>by simp [qX]
 | x::l,i=>by
   by_cases h:p x=true
   ·simp [qX,h]
   ·have h':p x=false:=by simpa using h
    simp [qX,h',BA p l (i+1)]
theorem Sl.upto {a:AV} {xs:List AV} (hs:Sl a xs) {k:Nat} (hk:∀ x∈xs,x.cells.length=k) {n:Int} (h0:0<=n) (h1:n<=(xs.length:Nat)):
 ∃ b,Sl b (xs.take n.toNat)/\∀ {P:Program} {t:TypeId} {j:IntKind},qC P t=some k->eQ P t a none (some (.int j n)) none=some b:=by
 have hab:dS (some (.int .i64 n)) xs.length xs.length=some n.toNat:=kW h0 h1
 have hall:(xs.all fun v=>Nat.beq v.cells.length k)=true:=List.all_eq_true.2 fun x hx=>by rw [hk x hx];exact Nat.beq_refl k
 have hlen:(xs.take n.toNat).length<=9223372036854775807:=by have:=hs.2;simp;omega
 rcases hs.1 with ⟨rfl,rfl⟩ | ⟨c,rfl⟩
 ·refine ⟨.nils,⟨.inl ⟨rfl,by simp⟩,hlen⟩,fun {P t j} he=>?_⟩
  have hn:n=0:=by simp at h1;omega
  subst hn
  rw [JQ,he];rfl
 ·refine ⟨_,⟨.inr ⟨c&&Nat.beq n.toNat xs.length,rfl⟩,hlen⟩,fun {P t j} he=>?_⟩
  rw [OB,he]
  show pR k (.fz xs c) none (some (.int j n)) none=_
  have hab':dS (some (.int j n)) xs.length xs.length=some n.toNat:=kW h0 h1
  simp only [pR,hab',lR,hall,cond_true,aZ,List.drop_zero,Nat.sub_zero]
theorem aMx:(∀ {n k:Nat} {v:AV} {cs:List AV} {d:Option AV},pC (some (n+1,some k)) (v::cs) d=pC (some (n,some k)) cs d)/\
 (∀ {a b:AV} {l:List AV} {d:Option AV},pC (some (0,some 2)) (a::b::l) d=some (.pf (.agg [a,b])))/\
 (∀ {a b c:AV} {l:List AV} {d:Option AV},pC (some (0,some 3)) (a::b::c::l) d=some (.pf (.agg [a,b,c])))/\
 (∀ {a b c e:AV} {l:List AV} {d:Option AV},pC (some (0,some 4)) (a::b::c::e::l) d=some (.pf (.agg [a,b,c,e])))/\
 (∀ {a b c e f:AV} {l:List AV} {d:Option AV},pC (some (0,some 5)) (a::b::c::e::f::l) d=some (.pf (.agg [a,b,c,e,f]))):=by
 refine ⟨fun {n k v cs d}=>?_,fun {a b l d}=>?_,fun {a b c l d}=>?_,fun {a b c e l d}=>?_,fun {a b c e f l d}=>?_⟩
 ·have h:Nat.ble (n+1+k) (v::cs).length=Nat.ble (n+k) cs.length:=by rw [List.length_cons,show n+1+k=(n+k)+1 by omega];rfl
  simp only [pC,h,aZ,List.drop_succ_cons]
 all_goals rw [aAk (by simp)];rfl
theorem Sl.stab {a:AV} {l:List AV} (h:Sl a l) {Y:Nat->Prop}:dY Y a:=by
 rcases h.1 with ⟨rfl,_⟩ | ⟨c,rfl⟩<;>trivial
theorem wgu:(∀ {P:Program} {O:bN} {want:Bool} {op:Op} {ops:List Oper} {dst:Option Tmp} {rest:List Oper} {e:Env} {Q:Ex->Env->Prop},guardK P O AV.undef want op ops dst rest e Q↔dN P O ops dst rest e Q (.val .undef))/\
 (∀ {P:Program} {O:bN} {kd:Nat} {Y:Nat->Prop} {op:Op} {e:Env} {K:ORes->Prop} {w:Bool},fM P O AV.undef w kd Y op e K↔K (.val .undef)):=⟨.rfl,.rfl⟩
end
end Go.Abs
