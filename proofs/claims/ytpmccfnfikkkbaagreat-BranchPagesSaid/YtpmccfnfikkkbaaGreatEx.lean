/-
  The abstract machine: closed runs whose result refers to new objects, which stay as they are.
-/
import Derived.Test.YtpmccfnfikkkbaaGreatEc
set_option linter.unusedVariables false
set_option linter.unusedSimpArgs false
namespace Go.Abs
noncomputable section
def MM (S:Sto):Nat->AV->AV->Bool
 | 0,_,_=>false
 | d+1,a,b=>match a,b with
   | .sl id g off len _,.fz l false=>match S.get id with
     | some (.cells g' m c)=>(match l with
       | []=>Nat.beq g g'&&Nat.beq len 0&&Nat.ble off m
       | x::_=>Nat.beq g g'&&Nat.beq l.length len&&l.all (fun y=>Nat.beq y.cells.length x.cells.length)&&Nat.ble (off+len*x.cells.length) m &&
         match c.row off (len*x.cells.length) with
         | some r=>fO (MM S d) r (l.flatMap AV.cells)
         | none=>false)
     | _=>false
   | .ptr id g off,.pf v=>match S.get id with
     | some (.cells g' m c)=>Nat.beq g g'&&Nat.ble (off+v.cells.length) m&&match c.row off v.cells.length with
       | some r=>fO (MM S d) r v.cells
       | none=>false
     | _=>false
   | .agg l,.agg l'=>fO (MM S d) l l'
   | .tuple l,.tuple l'=>fO (MM S d) l l'
   | a,b=>a.under 0 100&&AV.beq 1000 a b
theorem yZ {α:Type} {f:α->α->Bool}:∀ (l m:List α),fO f l m=true->l.length=m.length/\∀ (i:Nat) (x y:α),l[i]?=some x->m[i]?=some y->f x y=true
 | [],[],_=>⟨rfl,fun i x y h=>by simp at h⟩
 | [],_::_,h=>by simp [fO]at h
 | _::_,[],h=>by simp [fO]at h
 | a::l,b::m,h=>by
   simp only [fO,Bool.and_eq_true]at h;obtain ⟨e,k⟩:=yZ l m h.2;refine ⟨by simp [e],fun i x y c d=>?_⟩
   cases i with
   | zero=>simp at c d;subst c;subst d;exact h.1
   | succ i=>exact k i x y (by simpa using c) (by simpa using d)
theorem GK {k:Nat}:∀ (l:List AV),(∀ x∈l,x.cells.length=k)->∀ (i j:Nat) (x y:AV),l[i]?=some x->x.cells[j]?=some y->(l.flatMap AV.cells)[i*k+j]?=some y
 | [],_,i,j,x,y,e,_=>by simp at e
 | a::l,h,i,j,x,y,b,c=>by
   have d:a.cells.length=k:=h a (List.mem_cons_self ..)
   cases i with
   | zero=>
     simp at b;subst b;have f:=(List.getElem?_eq_some_iff.1 c).1;simp only [List.flatMap_cons,Nat.zero_mul,Nat.zero_add];rw [List.getElem?_append_left f];exact c
   | succ i=>
     simp only [List.flatMap_cons];rw [List.getElem?_append_right (by rw [d,Nat.succ_mul];omega),show (i+1)*k+j-a.cells.length=i*k+j by rw [d,Nat.succ_mul];omega];exact GK l (fun x m=>h x (List.mem_cons_of_mem _ m)) i j x y (by simpa using b) c
theorem IV {v:AV} {d:Nat} (h:v.under 0 d=true):Und 0 v:=fun _ V a=>VR.cut d v V h a
theorem CP {S:Sto}:∀ (d:Nat) (a b:AV),MM S d a b=true->Frz S 0 a b
 | 0,_,_,h=>by simp [MM]at h
 | d+1,a,b,h=>by
   have u:∀ {c:Tr AV} {off n:Nat} {r G:List AV},c.row off n=some r->fO (MM S d) r G=true->∀ (t:Nat) (y:AV),G[t]?=some y->∃ x,c.get (off+t)=some x/\Frz S 0 x y:=by
    intro c off n r G f q t y D;obtain ⟨k1,k2⟩:=Tr.row_spec c n off r f;obtain ⟨k3,k4⟩:=yZ r G q
    have Q:t<r.length:=by rw [k3];exact (List.getElem?_eq_some_iff.1 D).1
    exact ⟨r[t],by rw [k2 t (by omega)];exact List.getElem?_eq_getElem Q,CP d _ _ (k4 t _ y (List.getElem?_eq_getElem Q) D)⟩
   unfold MM at h;split at h
   ·rename_i id g off len cap l
    split at h
    ·rename_i g' m c E
     cases l with
     | nil=>
       simp only [Bool.and_eq_true]at h;obtain ⟨⟨f,q⟩,J⟩:=h;have p:=Nat.eq_of_beq_eq_true f;have w:=Nat.eq_of_beq_eq_true q;have U:=Nat.le_of_ble_eq_true J;subst p;subst w;exact .sl id g off 0 cap m 0 c [] (fun _ _=>.top) (Nat.zero_le _) E rfl (by omega) (fun x O=>nomatch O) (fun i j x y e=>by simp at e) (fun i j x y e=>by simp at e)
     | cons F R=>
       simp only [Bool.and_eq_true]at h;obtain ⟨⟨⟨⟨f,q⟩,J⟩,L⟩,B⟩:=h;have p:=Nat.eq_of_beq_eq_true f;have w:=Nat.eq_of_beq_eq_true q;have H:=Nat.le_of_ble_eq_true L;subst p;subst w
       have M:∀ x∈F::R,x.cells.length=F.cells.length:=fun x O=>Nat.eq_of_beq_eq_true (List.all_eq_true.1 J x O)
       generalize T:F.cells.length=k at *;split at B
       ·rename_i r N
        have o:=fun t y D=>u N B t y D
        refine .sl id g off _ cap m k c (F::R) (fun i j=>(c.get (off+i*k+j)).getD .top) (Nat.zero_le _) E rfl H M (fun i j x y I A=>?_) (fun i j x y I A=>?_)
        ·obtain ⟨z,C,_⟩:=o (i*k+j) y (GK _ M i j x y I A)
         rw [Nat.add_assoc,C];rfl
        ·obtain ⟨z,C,P⟩:=o (i*k+j) y (GK _ M i j x y I A)
         rw [Nat.add_assoc,C];exact P
       ·cases B
    ·cases h
   ·rename_i id g off v
    split at h
    ·rename_i g' m c E
     simp only [Bool.and_eq_true]at h;obtain ⟨⟨f,L⟩,B⟩:=h;have p:=Nat.eq_of_beq_eq_true f;have H:=Nat.le_of_ble_eq_true L;subst p;split at B
     ·rename_i r N
      have o:=fun t y D=>u N B t y D
      refine .ptr id g off m c v (fun j=>(c.get (off+j)).getD .top) (Nat.zero_le _) E H (fun j y A=>?_) (fun j y A=>?_)
      ·obtain ⟨z,C,_⟩:=o j y A
       rw [C];rfl
      ·obtain ⟨z,C,P⟩:=o j y A
       rw [C];exact P
     ·cases B
    ·cases h
   ·obtain ⟨f,q⟩:=yZ _ _ h
    exact .agg _ _ f fun i x y p w=>CP d x y (q i x y p w)
   ·obtain ⟨f,q⟩:=yZ _ _ h
    exact .tuple _ _ f fun i x y p w=>CP d x y (q i x y p w)
   ·simp only [Bool.and_eq_true]at h
    have:=AV.beq_eq _ _ _ h.2;subst this;exact .und _ (IV h.1)
def aIv (P:Program) (O:Orc) (n:Nat) (f:FuncId) (args:List AV) (v:AV):Bool:=args.all (AV.under 0 100)&&match aSw P O n f args with
 | some (.ret w none,.no)=>AV.beq 1000 v w
 | some (.ret w (some S),.no)=>MM S 1000 w v
 | _=>false
theorem QV {P:Program} {f:FuncId} {args:List AV} {v v':AV} {S:Sto} (h:dE P f args .empty (.ret v (some S))) (q:Frz S 0 v v'):dE P f args .empty (.ret v' none):=by
 obtain ⟨d,fn,c,p⟩:=h;refine ⟨d,fn,c,fun σ w A kd stk m a o b e=>?_⟩;obtain ⟨τ,V,w',fr,r,u,y,B,C⟩:=p σ w A kd stk m a o b e;obtain ⟨ρ,k,l⟩:=nQ (s:=.empty) (S:=S) (v:=v) (v':=v') (Nat.zero_le _) q σ τ w w' a y;exact ⟨ρ,V,w',fr,r,l V u,k,(by cases B with | normal=>exact .normal _ | quiet=>exact .quiet),C⟩
theorem QW {P:Program} {O:Orc} (c:jY P O) {n:Nat} {f:FuncId} {args:List AV} {v:AV} (h:aIv P O n f args v=true):Returns P f args v:=by
 simp only [aIv,Bool.and_eq_true]at h;obtain ⟨d,h⟩:=h
 have b:∀ x∈args,Und 0 x:=fun x k=>IV (List.all_eq_true.1 d x k)
 split at h
 ·rename_i w a
  have e:=AV.beq_eq _ _ _ h;subst e;exact eC b (EL c a)
 ·rename_i w S a
  exact eC b (QV (EL c a) (CP _ _ _ h))
 ·cases h
end
end Go.Abs
