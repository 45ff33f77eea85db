/-
  The abstract machine: calls that borrow what they are given; types of frozen values, contracts by types.
-/
import Derived.Test.YtpmccfnfikkkbaaGreatEt
import Derived.Test.YtpmccfnfikkkbaaGreatEm
set_option linter.unusedVariables false
set_option linter.unusedSimpArgs false
namespace Go.Abs
noncomputable section
variable {P:Program}
def sgA (w:World):Sg:=⟨fun b off=>w.cell? ⟨b,off,none⟩,fun _ _=>none⟩
theorem aUc {σ:Sg} {S:Sto} {w:World} (B:Rel σ S w) {v v':AV} (hf:Frz S 0 v v'):∀ V,VR σ v V->VR (sgA w) v' V:=by
 have ab:(σ.cut 0).le (sgA w):=⟨fun id g x hx=>(by
  have:(σ.cut 0).s id g=some x:=hx;simp only [Sg.cut]at this
  rw [if_neg (by omega)]at this;cases this),fun b off V q=>(B.mu b off V q).1⟩
 induction hf with
 | und v hu=>exact fun V q=>(hu σ V q).mono ab
 | agg l l' H _ J=>
   intro V q
   cases q with
   | agg _ ys D p=>
     refine .agg _ _ (by rw [<-H];exact D) fun i y Y h u=>?_
     have e:i<l.length:=by rw [H];exact (List.getElem?_eq_some_iff.1 h).1
     exact J i l[i] y (List.getElem?_eq_getElem e) h Y (p i _ Y (List.getElem?_eq_getElem e) u)
 | tuple l l' H _ J=>
   intro V q
   cases q with
   | tuple _ ys D p=>
     refine .tuple _ _ (by rw [<-H];exact D) fun i y Y h u=>?_
     have e:i<l.length:=by rw [H];exact (List.getElem?_eq_some_iff.1 h).1
     exact J i l[i] y (List.getElem?_eq_getElem e) h Y (p i _ Y (List.getElem?_eq_getElem e) u)
 | func f a a' c c' O Q _ _ ac ad=>
   intro V q
   cases q with
   | func _ F _ _ A C hF D p L M=>
     refine .func _ _ _ _ _ _ (by cases hF;exact .func f) (by rw [<-O];exact D) (by rw [<-Q];exact p) (fun i y Y h u=>?_) (fun i y Y h u=>?_)
     ·have e:i<a.length:=by rw [O];exact (List.getElem?_eq_some_iff.1 h).1
      exact ac i a[i] y (List.getElem?_eq_getElem e) h Y (L i _ Y (List.getElem?_eq_getElem e) u)
     ·have e:i<c.length:=by rw [Q];exact (List.getElem?_eq_some_iff.1 h).1
      exact ad i c[i] y (List.getElem?_eq_getElem e) h Y (M i _ Y (List.getElem?_eq_getElem e) u)
 | sl id g off len cap m k c l a aa Z H hm hk X _ J=>
   intro V q
   cases q with
   | sl _ _ _ _ _ b base sz C I R ae=>
     obtain ⟨b',base',sz',o,h,u,U⟩:=B.obj id _ Z;have r:σ id g=some (b',base',sz'):=h;rw [I]at r
     obtain ⟨rfl,rfl,rfl⟩:b=b'/\base=base'/\sz=sz':=by simpa using r
     cases U with
     | cells _ _ _ arr el fr q1 q2 q3 q4=>
       have d:∀ j,j<m->w.cell? ⟨b,base+j,none⟩=arr[base+j]?:=fun j E=>by simp [World.cell?,u]
       have G:∀ i j,i<l.length->j<k->off+i*k+j<m:=by
        intro i j e E
        have:i*k+k<=len*k:=by
         rw [<-Nat.succ_mul];exact Nat.mul_le_mul_right k (by omega)
        omega
       subst H;refine .fz l false ⟨b,base+off,none⟩ C b (base+off) k (fun _=>rfl) R (fun hc=>by cases hc) hk (fun i j x y W D p L=>?_) (fun i j e E=>?_)
       ·have e:=(List.getElem?_eq_some_iff.1 D).1
        have E:j<k:=by rw [<-hk x (List.mem_of_getElem? D)];exact (List.getElem?_eq_some_iff.1 p).1
        obtain ⟨W',M,T⟩:=q3 _ (a i j) (G i j e E) (X i j x y D p);have N:w.cell? ⟨b,base+off+i*k+j,none⟩=some W:=L;rw [show base+off+i*k+j=base+(off+i*k+j) by omega,d _ (G i j e E),M]at N;cases N;exact J i j x y D p W T
       ·show (w.cell? ⟨b,base+off+i*k+j,none⟩).isSome=true
        rw [show base+off+i*k+j=base+(off+i*k+j) by omega,d _ (G i j e E)];have:=G i j e E;rw [Array.getElem?_eq_getElem (show base+(off+i*k+j)<arr.size by omega)];rfl
 | ptr id g off m c v a aa Z hm X _ J=>
   intro V q
   cases q with
   | ptr _ _ _ b base sz I=>
     obtain ⟨b',base',sz',o,h,u,U⟩:=B.obj id _ Z;have r:σ id g=some (b',base',sz'):=h;rw [I]at r
     obtain ⟨rfl,rfl,rfl⟩:b=b'/\base=base'/\sz=sz':=by simpa using r
     cases U with
     | cells _ _ _ arr el fr q1 q2 q3 q4=>
       have d:∀ j,j<m->w.cell? ⟨b,base+j,none⟩=arr[base+j]?:=fun j E=>by simp [World.cell?,u]
       refine .pf v b (base+off) (fun j y W p L=>?_) (fun j E=>?_)
       ·have E:=(List.getElem?_eq_some_iff.1 p).1
        obtain ⟨W',M,T⟩:=q3 _ (a j) (by omega) (X j y p);have N:w.cell? ⟨b,base+off+j,none⟩=some W:=L;rw [show base+off+j=base+(off+j) by omega,d _ (by omega),M]at N;cases N;exact J j y p W T
       ·show (w.cell? ⟨b,base+off+j,none⟩).isSome=true
        rw [show base+off+j=base+(off+j) by omega,d _ (by omega)];rw [Array.getElem?_eq_getElem (show base+(off+j)<arr.size by omega)];rfl
def aCl (v:AV):Prop:=∀ (σ τ:Sg) V,VR σ v V->VR τ v V
theorem aMr {k:IntKind} {n:Int}:aCl (.int k n):=fun _ _ _ h=>by cases h;exact .int k n
theorem oF {b:Bool}:aCl (.bool b):=fun _ _ _ h=>by cases h;exact .bool b
def FrzL (s:Sto):List AV->List AV->Prop
 | [],[]=>True
 | a::l,b::l'=>Frz s 0 a b/\FrzL s l l'
 | _,_=>False
theorem FrzL.get {s:Sto}:∀ {l l':List AV},FrzL s l l'->l.length=l'.length/\∀ (i:Nat) x y,l[i]?=some x->l'[i]?=some y->Frz s 0 x y
 | [],[],_=>⟨rfl,fun i x y h=>by simp at h⟩
 | [],_::_,h=>h.elim
 | _::_,[],h=>h.elim
 | a::l,f::l',h=>by
   obtain ⟨d,e⟩:=FrzL.get h.2;refine ⟨by simp [d],fun i x y b c=>?_⟩
   cases i with
   | zero=>simp at b c;subst b;subst c;exact h.1
   | succ i=>exact e i x y (by simpa using b) (by simpa using c)
theorem vD {f:FuncId} {args a:List AV} {v:AV} (h:Returns P f a v) (L:aCl v) {s:Sto} (I:FrzL s args a):dE P f args s (.ret v none):=by
 obtain ⟨F,J⟩:=I.get;obtain ⟨u,fn,r,H⟩:=h .empty;refine ⟨u,fn,r,fun σ w A kd stk m d D l B=>?_⟩
 have e:Rel (sgA w) Sto.empty w:=
  {obj:=fun id x c=>(by rw [Sto.empty_get]at c;cases c),inj:=fun id x M T b base sz base' sz' c=>(by rw [Sto.empty_get]at c;cases c),
   mu:=fun b off V o=>⟨o,fun ⟨id,x,base,sz,c,_⟩=>(by rw [Sto.empty_get]at c;cases c)⟩,
   bnd:=fun id g x c=>(by cases c),gen:=fun id x g y c=>(by rw [Sto.empty_get]at c;cases c),top:=fun id _=>rfl}
 have k:RM (sgA w) kd .no m:=by cases B with
  | normal m=>exact .normal m
  | quiet=>exact .quiet
 have p:VRs (sgA w) a A.toList:=⟨by rw [<-F];exact D.1,fun i x X C G=>by
  have E:i<args.length:=by rw [F];exact (List.getElem?_eq_some_iff.1 C).1
  exact aUc d (J i args[i] x (List.getElem?_eq_getElem E) C) X (D.2 i _ X (List.getElem?_eq_getElem E) G)⟩
 obtain ⟨τ,V,w',fr,N,O,Q,S,R⟩:=H (sgA w) w A kd stk m e p l k;refine ⟨σ,V,w',fr,N,L τ σ V O,⟨Q.q,⟨fun _ _ _ h=>h,fun _ _ _ h=>h⟩,rfl,fun b off V o=>.inl o⟩,?_,R⟩
 cases S with
 | normal m=>exact .normal _
 | quiet=>exact .quiet
theorem MJ {S:Sto} {c:Nat} {v:AV} {cs:List AV} (e:S.get c=some (aW 0 cs)) (b:v.cells=cs) (f:∀ x∈cs,Und 0 x):Frz S 0 (.ptr c 0 0) (.pf v):=by
 refine WL (Nat.zero_le _) e (by rw [b];omega) fun j x y d a=>?_
 rw [b]at a;rw [Nat.zero_add,a]at d;cases d;exact .und _ (f _ (List.mem_of_getElem? a))
theorem rU {S:Sto} {c:Nat} {v:AV} {cs:List AV} {f:FuncId} (a:S.get c=some (aW 0 cs)) (d:v.cells=cs) (b:∀ x∈cs,Und 0 x):Frz S 0 (.func (.func f) [] [.ptr c 0 0]) (.func (.func f) [] [.pf v]):=
 .func f _ _ _ _ rfl rfl (fun i x y h=>by simp at h) (eM (MJ a d b) jD)
theorem eR {cs:List AV} {k:Nat} (h:cs.length=k):aM cs 0 k=cs:=by unfold aM;rw [List.drop_zero,List.take_of_length_le (by omega)]
def entB (f:FuncId) (D:List AV->Sto->Prop) (g:List AV->AV):lX:=(f,fun args s=>@ite _ (D args s) (Classical.propDecidable _) (some (.ret (g args) none)) none)
theorem entB_ok {f:FuncId} {D:List AV->Sto->Prop} {g:List AV->AV} (h:∀ args s,D args s->dE P f args s (.ret (g args) none)):dU P (entB f D g):=by
 intro args s res a;simp only [entB]at a;split at a
 ·rename_i b;cases a;exact h _ _ b
 ·cases a
theorem fJ {f:FuncId} {D:List AV->Sto->Prop} {g:List AV->AV} {L:List lX} {args:List AV} {s:Sto} (h:D args s):bJ (entB f D g::L) f args s=some (.ret (g args) none):=by
 rw [entB,zO];exact if_pos h
def onL (c:AV) (D:AV->Prop) (S:Sto->Prop):List AV->Sto->Prop
 | [a,b],s=>b=c/\D a/\S s
 | _,_=>False
def _root_.Go.Abs.AV.els:AV->List AV
 | .fz xs _=>xs
 | _=>[]
def _root_.Go.Abs.AV.num:AV->Int
 | .int _ n=>n
 | _=>0
def _root_.Go.Abs.AV.fld (k:Nat):AV->AV
 | .agg l=>l.getD k .top
 | _=>.top
def _root_.Go.Abs.AV.txt:AV->List Nat
 | .str l=>l
 | _=>[]
theorem Sl.els {a:AV} {xs:List AV} (h:Sl a xs):a.els=xs:=by
 rcases h.1 with ⟨rfl,rfl⟩ | ⟨c,rfl⟩<;>rfl
def dO (a:AV):Prop:=∃ n,a=.int .i64 n
def aIt (a:AV):Prop:=∃ b,a=.bool b
def sC (a:AV):Prop:=∃ l,a=.str l/\l.length<9223372036854775808/\By l
def TSl (T:AV->Prop) (a:AV):Prop:=∃ xs,Sl a xs/\∀ x∈xs,T x
def T2 (A B:AV->Prop) (a:AV):Prop:=∃ x y,a=.agg [x,y]/\A x/\B y
def T3 (A B C:AV->Prop) (a:AV):Prop:=∃ x y z,a=.agg [x,y,z]/\A x/\B y/\C z
def T4 (A B C D:AV->Prop) (a:AV):Prop:=∃ x y z u,a=.agg [x,y,z,u]/\A x/\B y/\C z/\D u
def T5 (A B C D E:AV->Prop) (a:AV):Prop:=∃ x y z u v,a=.agg [x,y,z,u,v]/\A x/\B y/\C z/\D u/\E v
def Tu (T:AV->Prop):Prop:=∀ a,T a->UnderE 0 a/\a.isCell=true
def Tk (k:Nat) (T:AV->Prop):Prop:=∀ a,T a->UnderE 0 a/\∃ cs,a=.agg cs/\cs.length=k/\cs.all AV.isCell=true
theorem tu_int:Tu dO:=fun a ⟨n,h⟩=>by subst h;exact ⟨⟨1,rfl⟩,rfl⟩
theorem XZ:Tu aIt:=fun a ⟨n,h⟩=>by subst h;exact ⟨⟨1,rfl⟩,rfl⟩
theorem tu_str:Tu sC:=fun a ⟨n,h,_⟩=>by subst h;exact ⟨⟨1,rfl⟩,rfl⟩
theorem gW {T:AV->Prop} (h:∀ a,T a->UnderE 0 a):Tu (TSl T):=fun a ⟨xs,b,d⟩=>⟨lZ b fun x c=>h x (d x c),b.cell⟩
theorem AG {T:AV->Prop} (h:Tu T):∀ a,T a->UnderE 0 a:=fun a b=>(h a b).1
theorem iZ {T:AV->Prop} {k:Nat} (h:Tk k T):∀ a,T a->UnderE 0 a:=fun a b=>(h a b).1
theorem tk2 {A B:AV->Prop} (d:Tu A) (e:Tu B):Tk 2 (T2 A B):=fun a ⟨x,y,h,b,c⟩=>by
 subst h;refine ⟨dM fun z f=>?_,_,rfl,rfl,?_⟩
 ·simp at f;rcases f with rfl | rfl
  ·exact (d _ b).1
  ·exact (e _ c).1
 ·simp [(d _ b).2,(e _ c).2]
theorem tk3 {A B C:AV->Prop} (e:Tu A) (f:Tu B) (k:Tu C):Tk 3 (T3 A B C):=fun a ⟨x,y,z,h,b,c,d⟩=>by
 subst h;refine ⟨dM fun z l=>?_,_,rfl,rfl,?_⟩
 ·simp at l;rcases l with rfl | rfl | rfl
  ·exact (e _ b).1
  ·exact (f _ c).1
  ·exact (k _ d).1
 ·simp [(e _ b).2,(f _ c).2,(k _ d).2]
theorem tk4 {A B C D:AV->Prop} (f:Tu A) (k:Tu B) (l:Tu C) (m:Tu D):Tk 4 (T4 A B C D):=fun a ⟨x,y,z,u,h,b,c,d,e⟩=>by
 subst h;refine ⟨dM fun z o=>?_,_,rfl,rfl,?_⟩
 ·simp at o;rcases o with rfl | rfl | rfl | rfl
  ·exact (f _ b).1
  ·exact (k _ c).1
  ·exact (l _ d).1
  ·exact (m _ e).1
 ·simp [(f _ b).2,(k _ c).2,(l _ d).2,(m _ e).2]
theorem tk5 {A B C D E:AV->Prop} (k:Tu A) (l:Tu B) (m:Tu C) (o:Tu D) (p:Tu E):Tk 5 (T5 A B C D E):=fun a ⟨x,y,z,u,v,h,b,c,d,e,f⟩=>by
 subst h;refine ⟨dM fun z q=>?_,_,rfl,rfl,?_⟩
 ·simp at q;rcases q with rfl | rfl | rfl | rfl | rfl
  ·exact (k _ b).1
  ·exact (l _ c).1
  ·exact (m _ d).1
  ·exact (o _ e).1
  ·exact (p _ f).1
 ·simp [(k _ b).2,(l _ c).2,(m _ d).2,(o _ e).2,(p _ f).2]
def vE (A:AV->Prop) (g:AV->AV):List AV->Option AV
 | [a]=>@ite _ (A a) (Classical.propDecidable _) (some (g a)) none
 | _=>none
def wK (R:AV->AV->Prop) (g:AV->AV->AV):List AV->Option AV
 | [a,b]=>@ite _ (R a b) (Classical.propDecidable _) (some (g a b)) none
 | _=>none
def sg3 (R:AV->AV->AV->Prop) (g:AV->AV->AV->AV):List AV->Option AV
 | [a,b,c]=>@ite _ (R a b c) (Classical.propDecidable _) (some (g a b c)) none
 | _=>none
def sg4 (R:AV->AV->AV->AV->Prop) (g:AV->AV->AV->AV->AV):List AV->Option AV
 | [a,b,c,d]=>@ite _ (R a b c d) (Classical.propDecidable _) (some (g a b c d)) none
 | _=>none
theorem cY {A:AV->Prop} {g:AV->AV} {a:AV} (h:A a):vE A g [a]=some (g a):=if_pos h
theorem sg2_eq {R:AV->AV->Prop} {g:AV->AV->AV} {a b:AV} (h:R a b):wK R g [a,b]=some (g a b):=if_pos h
theorem rV {R:AV->AV->AV->Prop} {g:AV->AV->AV->AV} {a b c:AV} (h:R a b c):sg3 R g [a,b,c]=some (g a b c):=if_pos h
theorem MK {R:AV->AV->AV->AV->Prop} {g:AV->AV->AV->AV->AV} {a b c d:AV} (h:R a b c d):sg4 R g [a,b,c,d]=some (g a b c d):=if_pos h
theorem AH {f:FuncId} {A:AV->Prop} {g:AV->AV} (h:∀ a,A a->Returns P f [a] (g a)):Ok P f (vE A g):=fun args v b=>by
 match args,b with
 | [a],b=>
   simp only [vE]at b;split at b
   ·rename_i c;cases b;exact h _ c
   ·cases b
theorem ok2 {f:FuncId} {R:AV->AV->Prop} {g:AV->AV->AV} (h:∀ a b,R a b->Returns P f [a,b] (g a b)):Ok P f (wK R g):=fun args v c=>by
 match args,c with
 | [a,b],c=>
   simp only [wK]at c;split at c
   ·rename_i d;cases c;exact h _ _ d
   ·cases c
theorem ok3 {f:FuncId} {R:AV->AV->AV->Prop} {g:AV->AV->AV->AV} (h:∀ a b c,R a b c->Returns P f [a,b,c] (g a b c)):Ok P f (sg3 R g):=fun args v d=>by
 match args,d with
 | [a,b,c],d=>
   simp only [sg3]at d;split at d
   ·rename_i e;cases d;exact h _ _ _ e
   ·cases d
theorem ok4 {f:FuncId} {R:AV->AV->AV->AV->Prop} {g:AV->AV->AV->AV->AV} (h:∀ a b c d,R a b c d->Returns P f [a,b,c,d] (g a b c d)):Ok P f (sg4 R g):=fun args v e=>by
 match args,e with
 | [a,b,c,d],e=>
   simp only [sg4]at e;split at e
   ·rename_i k;cases e;exact h _ _ _ _ k
   ·cases e
theorem Tk.len {k:Nat} {D:AV->Prop} (h:Tk k D) {x:AV} (b:D x):x.cells.length=k:=by
 obtain ⟨_,cs,rfl,a,_⟩:=h x b;exact a
theorem Tu.len {D:AV->Prop} (h:Tu D) {x:AV} (a:D x):x.cells.length=1:=by
 rw [gC (h x a).2];rfl
theorem Tk.pf {k:Nat} {D:AV->Prop} (h:Tk k D) {x:AV} (b:D x) {d:Option AV}:ZH (some (some k)) x d=some x:=by
 obtain ⟨_,cs,rfl,a,_⟩:=h x b;exact WQ a
theorem Tu.pf {D:AV->Prop} (h:Tu D) {x:AV} (a:D x) {d:Option AV}:ZH (some none) x d=some x:=WP (h x a).2
theorem aQz {k:Nat} {xs:List AV} {i:Nat} {x:AV} (a:xs[i]?=some x) (b:x.cells.length=k) {q:IntKind} {d:Option AV}:dS (some k) xs (.int q ((i:Nat):Int)) d=some (.pf x):=by
 have c:=(List.getElem?_eq_some_iff.1 a).1;exact uK (by omega) (by omega) (by rw [Int.toNat_natCast];exact a) b
theorem ML {k:Nat} {xs:List AV} {n:Int} {x:AV} (b:0<=n) (a:xs[n.toNat]?=some x) (c:x.cells.length=k) {q:IntKind} {d:Option AV}:dS (some k) xs (.int q n) d=some (.pf x):=by
 have e:=(List.getElem?_eq_some_iff.1 a).1;exact uK b (by omega) a c
theorem cO {k:Nat} {D:AV->Prop} {xs:List AV} (f:∀ x,D x->x.cells.length=k) (e:∀ x∈xs,D x) (h:xs.length<=9223372036854775807) {i:Nat} (a:i<xs.length):
 ∃ x,D x/\x∈xs/\xs[i]?=some x/\xs.drop i=x::xs.drop (i+1)/\(∀ {q:IntKind} {d:Option AV},dS (some k) xs (.int q ((i:Nat):Int)) d=some (.pf x))/\IntKind.i64.wrap ((i:Int)+1)=((i+1:Nat):Int)/\(((i:Nat):Int)<((xs.length:Nat):Int))=True:=by
 have b:=List.getElem_mem a;have c:=List.getElem?_eq_getElem a;exact ⟨xs[i],e _ b,b,c,List.drop_eq_getElem_cons a,fun {q d}=>aQz c (f _ (e _ b)),by rw [IntWalk.i64_in _ (by omega)];rfl,eq_true (by omega)⟩
theorem bP {xs:List AV}:(((xs.length:Nat):Int)<((xs.length:Nat):Int))=False:=eq_false (by omega)
def VU (g:FuncId) (first cap:List AV) (D:AV->Prop) (p:AV->AV):lX:=BL (ι:={x // D x}) g (fun x=>first++[x.1]++cap) fun x=>p x.1
theorem yY {g:FuncId} {first cap:List AV} {D:AV->Prop} {p:AV->AV} (h:∀ x,D x->Returns P g (first++[x]++cap) (p x)):dU P (VU g first cap D p):=qV fun x=>h x.1 x.2
theorem nF {g:FuncId} {first cap:List AV} {D:AV->Prop} {p:AV->AV} {L:List lX} {x:AV} {s:Sto} (b:D x):bJ (VU g first cap D p::L) g (first++[x]++cap) s=some (.ret (p x) none):=
 entF_same (A:=fun x:{x // D x}=>first++[x.1]++cap) (V:=fun x=>p x.1) (fun i j h=>by
  have a:first++[i.1]++cap=first++[j.1]++cap:=h
  have:=List.append_cancel_left (List.append_cancel_right a);simp only [List.cons.injEq,and_true]at this;show p i.1=p j.1
  rw [this]) ⟨x,b⟩
def tX (p:AV->Bool):List AV->Nat->Int
 | [],_=>-1
 | x::l,i=>if p x=true then (i:Nat) else tX p l (i+1)
theorem GJ (p:AV->Bool):∀ (l:List AV) (i:Nat),decide (0<=tX p l i)=l.any p
 | [],i=>by simp [tX]
 | x::l,i=>by
   by_cases h:p x=true
   ·simp [tX,h]
   ·have a:p x=false:=by simpa using h
    simp [tX,a,GJ p l (i+1)]
theorem Sl.upto {a:AV} {xs:List AV} (o:Sl a xs) {k:Nat} (q:∀ x∈xs,x.cells.length=k) {n:Int} (m:0<=n) (h:n<=(xs.length:Nat)):
 ∃ b,Sl b (xs.take n.toNat)/\∀ {P:Program} {t:TypeId} {j:IntKind},pG P t=some k->fF P t a none (some (.int j n)) none=some b:=by
 have p:eT (some (.int .i64 n)) xs.length xs.length=some n.toNat:=lG m h
 have f:(xs.all fun v=>Nat.beq v.cells.length k)=true:=List.all_eq_true.2 fun x u=>by rw [q x u];exact Nat.beq_refl k
 have d:(xs.take n.toNat).length<=9223372036854775807:=by have:=o.2;simp;omega
 rcases o.1 with ⟨rfl,rfl⟩ | ⟨c,rfl⟩
 ·refine ⟨.nils,⟨.inl ⟨rfl,by simp⟩,d⟩,fun {P t j} l=>?_⟩
  have r:n=0:=by simp at h;omega
  subst r;rw [AO,l];rfl
 ·refine ⟨_,⟨.inr ⟨c&&Nat.beq n.toNat xs.length,rfl⟩,d⟩,fun {P t j} l=>?_⟩
  rw [DW,l];show mQ k (.fz xs c) none (some (.int j n)) none=_;have e:eT (some (.int j n)) xs.length xs.length=some n.toNat:=lG m h;simp only [mQ,e,lN,f,cond_true,aM,List.drop_zero,Nat.sub_zero]
theorem aUd:(∀ {n k:Nat} {v:AV} {cs:List AV} {d:Option AV},qW (some (n+1,some k)) (v::cs) d=qW (some (n,some k)) cs d)/\
 (∀ {a b:AV} {l:List AV} {d:Option AV},qW (some (0,some 2)) (a::b::l) d=some (.pf (.agg [a,b])))/\
 (∀ {a b c:AV} {l:List AV} {d:Option AV},qW (some (0,some 3)) (a::b::c::l) d=some (.pf (.agg [a,b,c])))/\
 (∀ {a b c e:AV} {l:List AV} {d:Option AV},qW (some (0,some 4)) (a::b::c::e::l) d=some (.pf (.agg [a,b,c,e])))/\
 (∀ {a b c e f:AV} {l:List AV} {d:Option AV},qW (some (0,some 5)) (a::b::c::e::f::l) d=some (.pf (.agg [a,b,c,e,f]))):=by
 refine ⟨fun {n k v cs d}=>?_,fun {a b l d}=>?_,fun {a b c l d}=>?_,fun {a b c e l d}=>?_,fun {a b c e f l d}=>?_⟩
 ·have h:Nat.ble (n+1+k) (v::cs).length=Nat.ble (n+k) cs.length:=by rw [List.length_cons,show n+1+k=(n+k)+1 by omega];rfl
  simp only [qW,h,aM,List.drop_succ_cons]
 all_goals rw [aDz (by simp)];rfl
theorem Sl.stab {a:AV} {l:List AV} (h:Sl a l) {Y:Nat->Prop}:eW Y a:=by
 rcases h.1 with ⟨rfl,_⟩ | ⟨c,rfl⟩<;>trivial
theorem wgu:(∀ {P:Program} {O:Orc} {a:Bool} {op:Op} {ops:List Oper} {dst:Option Tmp} {rest:List Oper} {e:Env} {Q:Ex->Env->Prop},guardK P O AV.undef a op ops dst rest e Q↔bW P O ops dst rest e Q (.val .undef))/\
 (∀ {P:Program} {O:Orc} {kd:Nat} {Y:Nat->Prop} {op:Op} {e:Env} {K:ORes->Prop} {w:Bool},gL P O AV.undef w kd Y op e K↔K (.val .undef)):=⟨.rfl,.rfl⟩
end
end Go.Abs
