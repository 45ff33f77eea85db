/-
  The abstract machine: calls that borrow what they are given; types of frozen values, contracts by types.
-/
import Derived.Test.YtdipddlhenoglaaGreatEt
import Derived.Test.YtdipddlhenoglaaGreatEm
set_option linter.unusedVariables false
set_option linter.unusedSimpArgs false
namespace Go.Abs
noncomputable section
variable {P:Program}
def sgA (w:World):Sg:=⟨fun b off=>w.cell? ⟨b,off,none⟩,fun _ _=>none⟩
theorem aUh {σ:Sg} {S:Sto} {w:World} (D:Rel σ S w) {v v':AV} (hf:Frz S 0 v v'):∀ V,VR σ v V->VR (sgA w) v' V:=by
 have ab:(σ.cut 0).le (sgA w):=⟨fun id g x hx=>(by
  have:(σ.cut 0).s id g=some x:=hx;simp only [Sg.cut]at this
  rw [if_neg (by omega)]at this;cases this),fun b off V r=>(D.mu b off V r).1⟩
 induction hf with
 | und v hu=>exact fun V r=>(hu σ V r).mono ab
 | agg l l' I _ L=>
   intro V r
   cases r with
   | agg _ ys E q=>
     refine .agg _ _ (by rw [<-I];exact E) fun i y Y h B=>?_
     have e:i<l.length:=by rw [I];exact (List.getElem?_eq_some_iff.1 h).1
     exact L i l[i] y (List.getElem?_eq_getElem e) h Y (q i _ Y (List.getElem?_eq_getElem e) B)
 | tuple l l' I _ L=>
   intro V r
   cases r with
   | tuple _ ys E q=>
     refine .tuple _ _ (by rw [<-I];exact E) fun i y Y h B=>?_
     have e:i<l.length:=by rw [I];exact (List.getElem?_eq_some_iff.1 h).1
     exact L i l[i] y (List.getElem?_eq_getElem e) h Y (q i _ Y (List.getElem?_eq_getElem e) B)
 | func f a a' c c' Q R _ _ ac ad=>
   intro V r
   cases r with
   | func _ F _ _ A C hF E q M N=>
     refine .func _ _ _ _ _ _ (by cases hF;exact .func f) (by rw [<-Q];exact E) (by rw [<-R];exact q) (fun i y Y h B=>?_) (fun i y Y h B=>?_)
     ·have e:i<a.length:=by rw [Q];exact (List.getElem?_eq_some_iff.1 h).1
      exact ac i a[i] y (List.getElem?_eq_getElem e) h Y (M i _ Y (List.getElem?_eq_getElem e) B)
     ·have e:i<c.length:=by rw [R];exact (List.getElem?_eq_some_iff.1 h).1
      exact ad i c[i] y (List.getElem?_eq_getElem e) h Y (N i _ Y (List.getElem?_eq_getElem e) B)
 | sl id g off len cap m k c l a aa hg I hm hk Z _ L=>
   intro V r
   cases r with
   | sl _ _ _ _ _ b base sz C J T ae=>
     obtain ⟨b',base',sz',o,h,B,X⟩:=D.obj id _ hg;have u:σ id g=some (b',base',sz'):=h;rw [J]at u
     obtain ⟨rfl,rfl,rfl⟩:b=b'/\base=base'/\sz=sz':=by simpa using u
     cases X with
     | cells _ _ _ arr el fr q1 q2 q3 q4=>
       have d:∀ j,j<m->w.cell? ⟨b,base+j,none⟩=arr[base+j]?:=fun j G=>by simp [World.cell?,B]
       have H:∀ i j,i<l.length->j<k->off+i*k+j<m:=by
        intro i j e G
        have:i*k+k<=len*k:=by
         rw [<-Nat.succ_mul];exact Nat.mul_le_mul_right k (by omega)
        omega
       subst I;refine .fz l false ⟨b,base+off,none⟩ C b (base+off) k (fun _=>rfl) T (fun hc=>by cases hc) hk (fun i j x y W E q M=>?_) (fun i j e G=>?_)
       ·have e:=(List.getElem?_eq_some_iff.1 E).1
        have G:j<k:=by rw [<-hk x (List.mem_of_getElem? E)];exact (List.getElem?_eq_some_iff.1 q).1
        obtain ⟨W',N,U⟩:=q3 _ (a i j) (H i j e G) (Z i j x y E q);have O:w.cell? ⟨b,base+off+i*k+j,none⟩=some W:=M;rw [show base+off+i*k+j=base+(off+i*k+j) by omega,d _ (H i j e G),N]at O;cases O;exact L i j x y E q W U
       ·show (w.cell? ⟨b,base+off+i*k+j,none⟩).isSome=true
        rw [show base+off+i*k+j=base+(off+i*k+j) by omega,d _ (H i j e G)];have:=H i j e G;rw [Array.getElem?_eq_getElem (show base+(off+i*k+j)<arr.size by omega)];rfl
 | ptr id g off m c v a aa hg hm Z _ L=>
   intro V r
   cases r with
   | ptr _ _ _ b base sz J=>
     obtain ⟨b',base',sz',o,h,B,X⟩:=D.obj id _ hg;have u:σ id g=some (b',base',sz'):=h;rw [J]at u
     obtain ⟨rfl,rfl,rfl⟩:b=b'/\base=base'/\sz=sz':=by simpa using u
     cases X with
     | cells _ _ _ arr el fr q1 q2 q3 q4=>
       have d:∀ j,j<m->w.cell? ⟨b,base+j,none⟩=arr[base+j]?:=fun j G=>by simp [World.cell?,B]
       refine .pf v b (base+off) (fun j y W q M=>?_) (fun j G=>?_)
       ·have G:=(List.getElem?_eq_some_iff.1 q).1
        obtain ⟨W',N,U⟩:=q3 _ (a j) (by omega) (Z j y q);have O:w.cell? ⟨b,base+off+j,none⟩=some W:=M;rw [show base+off+j=base+(off+j) by omega,d _ (by omega),N]at O;cases O;exact L j y q W U
       ·show (w.cell? ⟨b,base+off+j,none⟩).isSome=true
        rw [show base+off+j=base+(off+j) by omega,d _ (by omega)];rw [Array.getElem?_eq_getElem (show base+(off+j)<arr.size by omega)];rfl
def aUi (v:AV):Prop:=∀ (σ τ:Sg) V,VR σ v V->VR τ v V
theorem pZ {b:Bool}:aUi (.bool b):=fun _ _ _ h=>by cases h;exact .bool b
def FrzL (s:Sto):List AV->List AV->Prop
 | [],[]=>True
 | a::l,b::c=>Frz s 0 a b/\FrzL s l c
 | _,_=>False
theorem FrzL.get {s:Sto}:∀ {l b:List AV},FrzL s l b->l.length=b.length/\∀ (i:Nat) x y,l[i]?=some x->b[i]?=some y->Frz s 0 x y
 | [],[],_=>⟨rfl,fun i x y h=>by simp at h⟩
 | [],_::_,h=>h.elim
 | _::_,[],h=>h.elim
 | a::l,k::b,h=>by
   obtain ⟨e,f⟩:=FrzL.get h.2;refine ⟨by simp [e],fun i x y c d=>?_⟩
   cases i with
   | zero=>simp at c d;subst c;subst d;exact h.1
   | succ i=>exact f i x y (by simpa using c) (by simpa using d)
theorem uT {f:FuncId} {args args':List AV} {v:AV} (h:Returns P f args' v) (L:aUi v) {s:Sto} (I:FrzL s args args'):bO P f args s (.ret v none):=by
 obtain ⟨F,J⟩:=I.get;obtain ⟨u,fn,r,H⟩:=h .empty;refine ⟨u,fn,r,fun σ w A kd stk m c D k B=>?_⟩
 have d:Rel (sgA w) Sto.empty w:=
  {obj:=fun id x a=>(by rw [Sto.empty_get]at a;cases a),inj:=fun id x M T b base sz base' sz' a=>(by rw [Sto.empty_get]at a;cases a),
   mu:=fun b off V l=>⟨l,fun ⟨id,x,base,sz,a,_⟩=>(by rw [Sto.empty_get]at a;cases a)⟩,
   bnd:=fun id g x a=>(by cases a),gen:=fun id x g y a=>(by rw [Sto.empty_get]at a;cases a),top:=fun id _=>rfl}
 have e:RM (sgA w) kd .no m:=by cases B with
  | normal m=>exact .normal m
  | quiet=>exact .quiet
 have o:VRs (sgA w) args' A.toList:=⟨by rw [<-F];exact D.1,fun i x X C G=>by
  have E:i<args.length:=by rw [F];exact (List.getElem?_eq_some_iff.1 C).1
  exact aUh c (J i args[i] x (List.getElem?_eq_getElem E) C) X (D.2 i _ X (List.getElem?_eq_getElem E) G)⟩
 obtain ⟨τ,V,w',fr,N,O,Q,S,R⟩:=H (sgA w) w A kd stk m d o k e;refine ⟨σ,V,w',fr,N,L τ σ V O,⟨Q.q,⟨fun _ _ _ h=>h,fun _ _ _ h=>h⟩,rfl,fun b off V l=>.inl l⟩,?_,R⟩
 cases S with
 | normal m=>exact .normal _
 | quiet=>exact .quiet
theorem yB {S:Sto} {c:Nat} {v:AV} {cs:List AV} (e:S.get c=some (aQ 0 cs)) (b:v.cells=cs) (f:∀ x∈cs,nE 0 x):Frz S 0 (.ptr c 0 0) (.pf v):=by
 refine aNh (Nat.zero_le _) e (by rw [b];omega) fun j x y d a=>?_
 rw [b]at a;rw [Nat.zero_add,a]at d;cases d;exact .und _ (f _ (List.mem_of_getElem? a))
theorem mS {S:Sto} {c:Nat} {v:AV} {cs:List AV} {f:FuncId} (a:S.get c=some (aQ 0 cs)) (d:v.cells=cs) (b:∀ x∈cs,nE 0 x):Frz S 0 (.func (.func f) [] [.ptr c 0 0]) (.func (.func f) [] [.pf v]):=
 .func f _ _ _ _ rfl rfl (fun i x y h=>by simp at h) (jQ (yB a d b) tO)
theorem eY {cs:List AV} {k:Nat} (h:cs.length=k):bJ cs 0 k=cs:=by unfold bJ;rw [List.drop_zero,List.take_of_length_le (by omega)]
def entB (f:FuncId) (D:List AV->Sto->Prop) (g:List AV->AV):kG:=(f,fun args s=>@ite _ (D args s) (Classical.propDecidable _) (some (.ret (g args) none)) none)
theorem entB_ok {f:FuncId} {D:List AV->Sto->Prop} {g:List AV->AV} (h:∀ args s,D args s->bO P f args s (.ret (g args) none)):bM P (entB f D g):=by
 intro args s res a;simp only [entB]at a;split at a
 ·rename_i b;cases a;exact h _ _ b
 ·cases a
theorem jA {f:FuncId} {D:List AV->Sto->Prop} {g:List AV->AV} {L:List kG} {args:List AV} {s:Sto} (h:D args s):orcL (entB f D g::L) f args s=some (.ret (g args) none):=by
 rw [entB,uW];exact if_pos h
def onL (c:AV) (D:AV->Prop) (S:Sto->Prop):List AV->Sto->Prop
 | [a,b],s=>b=c/\D a/\S s
 | _,_=>False
def _root_.Go.Abs.AV.els:AV->List AV
 | .fz xs _=>xs
 | _=>[]
def _root_.Go.Abs.AV.num:AV->Int
 | .int _ n=>n
 | _=>0
def _root_.Go.Abs.AV.fld (k:Nat):AV->AV
 | .agg l=>l.getD k .top
 | _=>.top
def _root_.Go.Abs.AV.txt:AV->List Nat
 | .str l=>l
 | _=>[]
theorem Sl.els {a:AV} {xs:List AV} (h:Sl a xs):a.els=xs:=by
 rcases h.1 with ⟨rfl,rfl⟩ | ⟨c,rfl⟩<;>rfl
def dA (a:AV):Prop:=∃ n,a=.int .i64 n
def aHs (a:AV):Prop:=∃ b,a=.bool b
def sL (a:AV):Prop:=∃ l,a=.str l/\l.length<9223372036854775808/\By l
def TSl (T:AV->Prop) (a:AV):Prop:=∃ xs,Sl a xs/\∀ x∈xs,T x
def T2 (A B:AV->Prop) (a:AV):Prop:=∃ x y,a=.agg [x,y]/\A x/\B y
def T3 (A B C:AV->Prop) (a:AV):Prop:=∃ x y z,a=.agg [x,y,z]/\A x/\B y/\C z
def T4 (A B C D:AV->Prop) (a:AV):Prop:=∃ x y z u,a=.agg [x,y,z,u]/\A x/\B y/\C z/\D u
def T5 (A B C D E:AV->Prop) (a:AV):Prop:=∃ x y z u v,a=.agg [x,y,z,u,v]/\A x/\B y/\C z/\D u/\E v
def Tu (T:AV->Prop):Prop:=∀ a,T a->UnderE 0 a/\a.isCell=true
def Tk (k:Nat) (T:AV->Prop):Prop:=∀ a,T a->UnderE 0 a/\∃ cs,a=.agg cs/\cs.length=k/\cs.all AV.isCell=true
theorem tu_int:Tu dA:=fun a ⟨n,h⟩=>by subst h;exact ⟨⟨1,rfl⟩,rfl⟩
theorem aNa:Tu aHs:=fun a ⟨n,h⟩=>by subst h;exact ⟨⟨1,rfl⟩,rfl⟩
theorem tu_str:Tu sL:=fun a ⟨n,h,_⟩=>by subst h;exact ⟨⟨1,rfl⟩,rfl⟩
theorem kE {T:AV->Prop} (h:∀ a,T a->UnderE 0 a):Tu (TSl T):=fun a ⟨xs,b,d⟩=>⟨pD b fun x c=>h x (d x c),b.cell⟩
theorem MC {T:AV->Prop} (h:Tu T):∀ a,T a->UnderE 0 a:=fun a b=>(h a b).1
theorem kO {T:AV->Prop} {k:Nat} (h:Tk k T):∀ a,T a->UnderE 0 a:=fun a b=>(h a b).1
theorem tk2 {A B:AV->Prop} (d:Tu A) (e:Tu B):Tk 2 (T2 A B):=fun a ⟨x,y,h,b,c⟩=>by
 subst h;refine ⟨kR fun z f=>?_,_,rfl,rfl,?_⟩
 ·simp at f;rcases f with rfl | rfl
  ·exact (d _ b).1
  ·exact (e _ c).1
 ·simp [(d _ b).2,(e _ c).2]
theorem tk3 {A B C:AV->Prop} (e:Tu A) (f:Tu B) (k:Tu C):Tk 3 (T3 A B C):=fun a ⟨x,y,z,h,b,c,d⟩=>by
 subst h;refine ⟨kR fun z l=>?_,_,rfl,rfl,?_⟩
 ·simp at l;rcases l with rfl | rfl | rfl
  ·exact (e _ b).1
  ·exact (f _ c).1
  ·exact (k _ d).1
 ·simp [(e _ b).2,(f _ c).2,(k _ d).2]
theorem tk4 {A B C D:AV->Prop} (f:Tu A) (k:Tu B) (l:Tu C) (m:Tu D):Tk 4 (T4 A B C D):=fun a ⟨x,y,z,u,h,b,c,d,e⟩=>by
 subst h;refine ⟨kR fun z o=>?_,_,rfl,rfl,?_⟩
 ·simp at o;rcases o with rfl | rfl | rfl | rfl
  ·exact (f _ b).1
  ·exact (k _ c).1
  ·exact (l _ d).1
  ·exact (m _ e).1
 ·simp [(f _ b).2,(k _ c).2,(l _ d).2,(m _ e).2]
theorem tk5 {A B C D E:AV->Prop} (k:Tu A) (l:Tu B) (m:Tu C) (o:Tu D) (q:Tu E):Tk 5 (T5 A B C D E):=fun a ⟨x,y,z,u,v,h,b,c,d,e,f⟩=>by
 subst h;refine ⟨kR fun z r=>?_,_,rfl,rfl,?_⟩
 ·simp at r;rcases r with rfl | rfl | rfl | rfl | rfl
  ·exact (k _ b).1
  ·exact (l _ c).1
  ·exact (m _ d).1
  ·exact (o _ e).1
  ·exact (q _ f).1
 ·simp [(k _ b).2,(l _ c).2,(m _ d).2,(o _ e).2,(q _ f).2]
def vJ (A:AV->Prop) (g:AV->AV):List AV->Option AV
 | [a]=>@ite _ (A a) (Classical.propDecidable _) (some (g a)) none
 | _=>none
def wX (R:AV->AV->Prop) (g:AV->AV->AV):List AV->Option AV
 | [a,b]=>@ite _ (R a b) (Classical.propDecidable _) (some (g a b)) none
 | _=>none
def sg3 (R:AV->AV->AV->Prop) (g:AV->AV->AV->AV):List AV->Option AV
 | [a,b,c]=>@ite _ (R a b c) (Classical.propDecidable _) (some (g a b c)) none
 | _=>none
def sg4 (R:AV->AV->AV->AV->Prop) (g:AV->AV->AV->AV->AV):List AV->Option AV
 | [a,b,c,d]=>@ite _ (R a b c d) (Classical.propDecidable _) (some (g a b c d)) none
 | _=>none
theorem cR {A:AV->Prop} {g:AV->AV} {a:AV} (h:A a):vJ A g [a]=some (g a):=if_pos h
theorem sg2_eq {R:AV->AV->Prop} {g:AV->AV->AV} {a b:AV} (h:R a b):wX R g [a,b]=some (g a b):=if_pos h
theorem kP {R:AV->AV->AV->Prop} {g:AV->AV->AV->AV} {a b c:AV} (h:R a b c):sg3 R g [a,b,c]=some (g a b c):=if_pos h
theorem MD {R:AV->AV->AV->AV->Prop} {g:AV->AV->AV->AV->AV} {a b c d:AV} (h:R a b c d):sg4 R g [a,b,c,d]=some (g a b c d):=if_pos h
theorem AH {f:FuncId} {A:AV->Prop} {g:AV->AV} (h:∀ a,A a->Returns P f [a] (g a)):Ok P f (vJ A g):=fun args v b=>by
 match args,b with
 | [a],b=>
   simp only [vJ]at b;split at b
   ·rename_i c;cases b;exact h _ c
   ·cases b
theorem ok2 {f:FuncId} {R:AV->AV->Prop} {g:AV->AV->AV} (h:∀ a b,R a b->Returns P f [a,b] (g a b)):Ok P f (wX R g):=fun args v c=>by
 match args,c with
 | [a,b],c=>
   simp only [wX]at c;split at c
   ·rename_i d;cases c;exact h _ _ d
   ·cases c
theorem ok3 {f:FuncId} {R:AV->AV->AV->Prop} {g:AV->AV->AV->AV} (h:∀ a b c,R a b c->Returns P f [a,b,c] (g a b c)):Ok P f (sg3 R g):=fun args v d=>by
 match args,d with
 | [a,b,c],d=>
   simp only [sg3]at d;split at d
   ·rename_i e;cases d;exact h _ _ _ e
   ·cases d
theorem ok4 {f:FuncId} {R:AV->AV->AV->AV->Prop} {g:AV->AV->AV->AV->AV} (h:∀ a b c d,R a b c d->Returns P f [a,b,c,d] (g a b c d)):Ok P f (sg4 R g):=fun args v e=>by
 match args,e with
 | [a,b,c,d],e=>
   simp only [sg4]at e;split at e
   ·rename_i k;cases e;exact h _ _ _ _ k
   ·cases e
theorem Tk.len {k:Nat} {D:AV->Prop} (h:Tk k D) {x:AV} (b:D x):x.cells.length=k:=by
 obtain ⟨_,cs,rfl,a,_⟩:=h x b;exact a
theorem Tu.len {D:AV->Prop} (h:Tu D) {x:AV} (a:D x):x.cells.length=1:=by
 rw [lE (h x a).2];rfl
theorem Tk.pf {k:Nat} {D:AV->Prop} (h:Tk k D) {x:AV} (b:D x) {d:Option AV}:pfC (some (some k)) x d=some x:=by
 obtain ⟨_,cs,rfl,a,_⟩:=h x b;exact YM a
theorem Tu.pf {D:AV->Prop} (h:Tu D) {x:AV} (a:D x) {d:Option AV}:pfC (some none) x d=some x:=YL (h x a).2
theorem iQ {k:Nat} {xs:List AV} {i:Nat} {x:AV} (a:xs[i]?=some x) (b:x.cells.length=k) {q:IntKind} {d:Option AV}:wY (some k) xs (.int q ((i:Nat):Int)) d=some (.pf x):=by
 have c:=(List.getElem?_eq_some_iff.1 a).1;exact YP (by omega) (by omega) (by rw [Int.toNat_natCast];exact a) b
theorem rB {k:Nat} {xs:List AV} {n:Int} {x:AV} (b:0<=n) (a:xs[n.toNat]?=some x) (c:x.cells.length=k) {q:IntKind} {d:Option AV}:wY (some k) xs (.int q n) d=some (.pf x):=by
 have e:=(List.getElem?_eq_some_iff.1 a).1;exact YP b (by omega) a c
theorem bB {k:Nat} {D:AV->Prop} {xs:List AV} (f:∀ x,D x->x.cells.length=k) (e:∀ x∈xs,D x) (h:xs.length<=9223372036854775807) {i:Nat} (a:i<xs.length):
 ∃ x,D x/\x∈xs/\xs[i]?=some x/\xs.drop i=x::xs.drop (i+1)/\(∀ {q:IntKind} {d:Option AV},wY (some k) xs (.int q ((i:Nat):Int)) d=some (.pf x))/\IntKind.i64.wrap ((i:Int)+1)=((i+1:Nat):Int)/\(((i:Nat):Int)<((xs.length:Nat):Int))=True:=by
 have b:=List.getElem_mem a;have c:=List.getElem?_eq_getElem a;exact ⟨xs[i],e _ b,b,c,List.drop_eq_getElem_cons a,fun {q d}=>iQ c (f _ (e _ b)),by rw [IntWalk.i64_in _ (by omega)];rfl,eq_true (by omega)⟩
theorem bH {xs:List AV}:(((xs.length:Nat):Int)<((xs.length:Nat):Int))=False:=eq_false (by omega)
def aHt (g:FuncId) (first cap:List AV) (D:AV->Prop) (p:AV->AV):kG:=aBu (ι:={x // D x}) g (fun x=>first++[x.1]++cap) fun x=>p x.1
theorem CU {g:FuncId} {first cap:List AV} {D:AV->Prop} {p:AV->AV} (h:∀ x,D x->Returns P g (first++[x]++cap) (p x)):bM P (aHt g first cap D p):=YI fun x=>h x.1 x.2
theorem qA {g:FuncId} {first cap:List AV} {D:AV->Prop} {p:AV->AV} {L:List kG} {x:AV} {s:Sto} (b:D x):orcL (aHt g first cap D p::L) g (first++[x]++cap) s=some (.ret (p x) none):=
 entF_same (A:=fun x:{x // D x}=>first++[x.1]++cap) (V:=fun x=>p x.1) (fun i j h=>by
  have a:first++[i.1]++cap=first++[j.1]++cap:=h
  have:=List.append_cancel_left (List.append_cancel_right a);simp only [List.cons.injEq,and_true]at this;show p i.1=p j.1
  rw [this]) ⟨x,b⟩
def tL (p:AV->Bool):List AV->Nat->Int
 | [],_=>-1
 | x::l,i=>if p x=true then (i:Nat) else tL p l (i+1)
theorem EZ (p:AV->Bool):∀ (l:List AV) (i:Nat),decide (0<=tL p l i)=l.any p
 | [],i=>by simp [tL]
 | x::l,i=>by
   by_cases h:p x=true
   ·simp [tL,h]
   ·have a:p x=false:=by simpa using h
    simp [tL,a,EZ p l (i+1)]
theorem Sl.upto {a:AV} {xs:List AV} (m:Sl a xs) {k:Nat} (q:∀ x∈xs,x.cells.length=k) {n:Int} (o:0<=n) (l:n<=(xs.length:Nat)):
 ∃ b,Sl b (xs.take n.toNat)/\∀ {P:Program} {t:TypeId} {j:IntKind},qD P t=some k->dQ P t a none (some (.int j n)) none=some b:=by
 have f:(xs.all fun v=>Nat.beq v.cells.length k)=true:=List.all_eq_true.2 fun x u=>by rw [q x u];exact Nat.beq_refl k
 have d:(xs.take n.toNat).length<=9223372036854775807:=by have:=m.2;simp;omega
 rcases m.1 with ⟨rfl,rfl⟩ | ⟨c,rfl⟩
 ·refine ⟨.nils,⟨.inl ⟨rfl,by simp⟩,d⟩,fun {P t j} h=>?_⟩
  have r:n=0:=by simp at l;omega
  subst r;rw [QE,h];rfl
 ·refine ⟨_,⟨.inr ⟨c&&Nat.beq n.toNat xs.length,rfl⟩,d⟩,fun {P t j} h=>?_⟩
  rw [UZ,h];show oS k (.fz xs c) none (some (.int j n)) none=_;have e:fQ (some (.int j n)) xs.length xs.length=some n.toNat:=CW o l;simp only [oS,e,yE,f,cond_true,bJ,List.drop_zero,Nat.sub_zero]
theorem aUj:(∀ {n k:Nat} {v:AV} {cs:List AV} {d:Option AV},rE (some (n+1,some k)) (v::cs) d=rE (some (n,some k)) cs d)/\
 (∀ {a b:AV} {l:List AV} {d:Option AV},rE (some (0,some 2)) (a::b::l) d=some (.pf (.agg [a,b])))/\
 (∀ {a b c:AV} {l:List AV} {d:Option AV},rE (some (0,some 3)) (a::b::c::l) d=some (.pf (.agg [a,b,c])))/\
 (∀ {a b c e:AV} {l:List AV} {d:Option AV},rE (some (0,some 4)) (a::b::c::e::l) d=some (.pf (.agg [a,b,c,e])))/\
 (∀ {a b c e f:AV} {l:List AV} {d:Option AV},rE (some (0,some 5)) (a::b::c::e::f::l) d=some (.pf (.agg [a,b,c,e,f]))):=by
 refine ⟨fun {n k v cs d}=>?_,fun {a b l d}=>?_,fun {a b c l d}=>?_,fun {a b c e l d}=>?_,fun {a b c e f l d}=>?_⟩
 ·have h:Nat.ble (n+1+k) (v::cs).length=Nat.ble (n+k) cs.length:=by rw [List.length_cons,show n+1+k=(n+k)+1 by omega];rfl
  simp only [rE,h,bJ,List.drop_succ_cons]
 all_goals rw [aIe (by simp)];rfl
theorem Sl.stab {a:AV} {l:List AV} (h:Sl a l) {Y:Nat->Prop}:kF Y a:=by
 rcases h.1 with ⟨rfl,_⟩ | ⟨c,rfl⟩<;>trivial
theorem wgu:(∀ {P:Program} {O:cH} {a:Bool} {op:Op} {ops:List Oper} {dst:Option Tmp} {rest:List Oper} {e:Env} {Q:Ex->Env->Prop},guardK P O AV.undef a op ops dst rest e Q↔iT P O ops dst rest e Q (.val .undef))/\
 (∀ {P:Program} {O:cH} {kd:Nat} {Y:Nat->Prop} {op:Op} {e:Env} {K:ORes->Prop} {w:Bool},tW P O AV.undef w kd Y op e K↔K (.val .undef)):=⟨.rfl,.rfl⟩
end
end Go.Abs
