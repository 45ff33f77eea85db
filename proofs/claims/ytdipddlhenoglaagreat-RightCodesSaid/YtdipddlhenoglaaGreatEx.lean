/-
  The abstract machine: closed runs whose result refers to new objects, which stay as they are.
-/
import Derived.Test.YtdipddlhenoglaaGreatEc
set_option linter.unusedVariables false
set_option linter.unusedSimpArgs false
namespace Go.Abs
noncomputable section
def NP (S:Sto):Nat->AV->AV->Bool
 | 0,_,_=>false
 | d+1,a,b=>match a,b with
   | .sl id g off len _,.fz l false=>match S.get id with
     | some (.cells e m c)=>(match l with
       | []=>Nat.beq g e&&Nat.beq len 0&&Nat.ble off m
       | x::_=>Nat.beq g e&&Nat.beq l.length len&&l.all (fun y=>Nat.beq y.cells.length x.cells.length)&&Nat.ble (off+len*x.cells.length) m &&
         match c.row off (len*x.cells.length) with
         | some r=>fP (NP S d) r (l.flatMap AV.cells)
         | none=>false)
     | _=>false
   | .ptr id g off,.pf v=>match S.get id with
     | some (.cells e m c)=>Nat.beq g e&&Nat.ble (off+v.cells.length) m&&match c.row off v.cells.length with
       | some r=>fP (NP S d) r v.cells
       | none=>false
     | _=>false
   | .agg l,.agg f=>fP (NP S d) l f
   | .tuple l,.tuple f=>fP (NP S d) l f
   | a,b=>a.under 0 100&&AV.beq 1000 a b
theorem zH {α:Type} {f:α->α->Bool}:∀ (l m:List α),fP f l m=true->l.length=m.length/\∀ (i:Nat) (x y:α),l[i]?=some x->m[i]?=some y->f x y=true
 | [],[],_=>⟨rfl,fun i x y h=>by simp at h⟩
 | [],_::_,h=>by simp [fP]at h
 | _::_,[],h=>by simp [fP]at h
 | a::l,b::m,h=>by
   simp only [fP,Bool.and_eq_true]at h;obtain ⟨e,k⟩:=zH l m h.2;refine ⟨by simp [e],fun i x y c d=>?_⟩
   cases i with
   | zero=>simp at c d;subst c;subst d;exact h.1
   | succ i=>exact k i x y (by simpa using c) (by simpa using d)
theorem GT {k:Nat}:∀ (l:List AV),(∀ x∈l,x.cells.length=k)->∀ (i j:Nat) (x y:AV),l[i]?=some x->x.cells[j]?=some y->(l.flatMap AV.cells)[i*k+j]?=some y
 | [],_,i,j,x,y,e,_=>by simp at e
 | a::l,h,i,j,x,y,b,c=>by
   have d:a.cells.length=k:=h a (List.mem_cons_self ..)
   cases i with
   | zero=>
     simp at b;subst b;have f:=(List.getElem?_eq_some_iff.1 c).1;simp only [List.flatMap_cons,Nat.zero_mul,Nat.zero_add];rw [List.getElem?_append_left f];exact c
   | succ i=>
     simp only [List.flatMap_cons];rw [List.getElem?_append_right (by rw [d,Nat.succ_mul];omega),show (i+1)*k+j-a.cells.length=i*k+j by rw [d,Nat.succ_mul];omega];exact GT l (fun x m=>h x (List.mem_cons_of_mem _ m)) i j x y (by simpa using b) c
theorem xH {k:Nat}:∀ (l:List AV),(∀ x∈l,x.cells.length=k)->(l.flatMap AV.cells).length=l.length*k
 | [],_=>by simp
 | a::l,h=>by
   rw [List.flatMap_cons,List.length_append,xH l (fun x b=>h x (List.mem_cons_of_mem _ b)),h a (List.mem_cons_self ..),List.length_cons,Nat.succ_mul];omega
theorem JV {v:AV} {d:Nat} (h:v.under 0 d=true):nE 0 v:=fun _ V a=>VR.cut d v V h a
theorem DD {S:Sto}:∀ (d:Nat) (a b:AV),NP S d a b=true->Frz S 0 a b
 | 0,_,_,h=>by simp [NP]at h
 | d+1,a,b,h=>by
   have w:∀ {c:Tr AV} {off n:Nat} {r H:List AV},c.row off n=some r->fP (NP S d) r H=true->∀ (t:Nat) (y:AV),H[t]?=some y->∃ x,c.get (off+t)=some x/\Frz S 0 x y:=by
    intro c off n r H f u t y E;obtain ⟨k1,k2⟩:=Tr.row_spec c n off r f;obtain ⟨k3,k4⟩:=zH r H u
    have R:t<r.length:=by rw [k3];exact (List.getElem?_eq_some_iff.1 E).1
    exact ⟨r[t],by rw [k2 t (by omega)];exact List.getElem?_eq_getElem R,DD d _ _ (k4 t _ y (List.getElem?_eq_getElem R) E)⟩
   unfold NP at h;split at h
   ·rename_i id g off len cap l
    split at h
    ·rename_i U m c F
     cases l with
     | nil=>
       simp only [Bool.and_eq_true]at h;obtain ⟨⟨f,u⟩,L⟩:=h;have q:=Nat.eq_of_beq_eq_true f;have A:=Nat.eq_of_beq_eq_true u;have X:=Nat.le_of_ble_eq_true L;subst q;subst A;exact .sl id g off 0 cap m 0 c [] (fun _ _=>.top) (Nat.zero_le _) F rfl (by omega) (fun x P=>nomatch P) (fun i j x y e=>by simp at e) (fun i j x y e=>by simp at e)
     | cons G T=>
       simp only [Bool.and_eq_true]at h;obtain ⟨⟨⟨⟨f,u⟩,L⟩,M⟩,C⟩:=h;have q:=Nat.eq_of_beq_eq_true f;have A:=Nat.eq_of_beq_eq_true u;have I:=Nat.le_of_ble_eq_true M;subst q;subst A
       have N:∀ x∈G::T,x.cells.length=G.cells.length:=fun x P=>Nat.eq_of_beq_eq_true (List.all_eq_true.1 L x P)
       generalize V:G.cells.length=k at *;split at C
       ·rename_i r O
        have o:=fun t y E=>w O C t y E
        refine .sl id g off _ cap m k c (G::T) (fun i j=>(c.get (off+i*k+j)).getD .top) (Nat.zero_le _) F rfl I N (fun i j x y J B=>?_) (fun i j x y J B=>?_)
        ·obtain ⟨z,D,_⟩:=o (i*k+j) y (GT _ N i j x y J B)
         rw [Nat.add_assoc,D];rfl
        ·obtain ⟨z,D,Q⟩:=o (i*k+j) y (GT _ N i j x y J B)
         rw [Nat.add_assoc,D];exact Q
       ·cases C
    ·cases h
   ·rename_i id g off v
    split at h
    ·rename_i U m c F
     simp only [Bool.and_eq_true]at h;obtain ⟨⟨f,M⟩,C⟩:=h;have q:=Nat.eq_of_beq_eq_true f;have I:=Nat.le_of_ble_eq_true M;subst q;split at C
     ·rename_i r O
      have o:=fun t y E=>w O C t y E
      refine .ptr id g off m c v (fun j=>(c.get (off+j)).getD .top) (Nat.zero_le _) F I (fun j y B=>?_) (fun j y B=>?_)
      ·obtain ⟨z,D,_⟩:=o j y B
       rw [D];rfl
      ·obtain ⟨z,D,Q⟩:=o j y B
       rw [D];exact Q
     ·cases C
    ·cases h
   ·obtain ⟨f,u⟩:=zH _ _ h
    exact .agg _ _ f fun i x y q A=>DD d x y (u i x y q A)
   ·obtain ⟨f,u⟩:=zH _ _ h
    exact .tuple _ _ f fun i x y q A=>DD d x y (u i x y q A)
   ·simp only [Bool.and_eq_true]at h
    have:=AV.beq_eq _ _ _ h.2;subst this;exact .und _ (JV h.1)
def bC (P:Program) (O:cH) (n:Nat) (f:FuncId) (args:List AV) (v:AV):Bool:=args.all (AV.under 0 100)&&match aVi P O n f args with
 | some (.ret w none,.no)=>AV.beq 1000 v w
 | some (.ret w (some S),.no)=>NP S 1000 w v
 | _=>false
theorem RX {P:Program} {f:FuncId} {args:List AV} {v v':AV} {S:Sto} (h:bO P f args .empty (.ret v (some S))) (r:Frz S 0 v v'):bO P f args .empty (.ret v' none):=by
 obtain ⟨d,fn,c,q⟩:=h;refine ⟨d,fn,c,fun σ w A kd stk m a o b e=>?_⟩;obtain ⟨τ,V,w',fr,u,y,B,C,D⟩:=q σ w A kd stk m a o b e;obtain ⟨ρ,k,l⟩:=kV (s:=.empty) (S:=S) (v:=v) (v':=v') (Nat.zero_le _) r σ τ w w' a B;exact ⟨ρ,V,w',fr,u,l V y,k,(by cases C with | normal=>exact .normal _ | quiet=>exact .quiet),D⟩
theorem RY {P:Program} {O:cH} (c:rN P O) {n:Nat} {f:FuncId} {args:List AV} {v:AV} (h:bC P O n f args v=true):Returns P f args v:=by
 simp only [bC,Bool.and_eq_true]at h;obtain ⟨d,h⟩:=h
 have b:∀ x∈args,nE 0 x:=fun x k=>JV (List.all_eq_true.1 d x k)
 split at h
 ·rename_i w a
  have e:=AV.beq_eq _ _ _ h;subst e;exact dV b (FW c a)
 ·rename_i w S a
  exact dV b (RX (FW c a) (DD _ _ _ h))
 ·cases h
end
end Go.Abs
