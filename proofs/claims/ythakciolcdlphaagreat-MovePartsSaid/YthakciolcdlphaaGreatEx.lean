/-
  The abstract machine: closed runs whose result refers to new objects, which stay as they are.
-/
import Derived.Test.YthakciolcdlphaaGreatEc
set_option linter.unusedVariables false
set_option linter.unusedSimpArgs false
namespace Go.Abs
noncomputable section
def HX (S:Sto):Nat->AV->AV->Bool
 | 0,_,_=>false
 | d+1,a,b=>match a,b with
   | .sl id g off len _,.fz l false=>match S.get id with
     | some (.cells g' m c)=>(match l with
       | []=>Nat.beq g g'&&Nat.beq len 0&&Nat.ble off m
       | x::_=>Nat.beq g g'&&Nat.beq l.length len&&l.all (fun y=>Nat.beq y.cells.length x.cells.length)&&Nat.ble (off+len*x.cells.length) m &&
         match c.row off (len*x.cells.length) with
         | some r=>eO (HX S d) r (l.flatMap AV.cells)
         | none=>false)
     | _=>false
   | .ptr id g off,.pf v=>match S.get id with
     | some (.cells g' m c)=>Nat.beq g g'&&Nat.ble (off+v.cells.length) m&&match c.row off v.cells.length with
       | some r=>eO (HX S d) r v.cells
       | none=>false
     | _=>false
   | .agg l,.agg l'=>eO (HX S d) l l'
   | .tuple l,.tuple l'=>eO (HX S d) l l'
   | a,b=>a.under 0 100&&AV.beq 1000 a b
theorem wB {α:Type} {f:α->α->Bool}:∀ (l m:List α),eO f l m=true->l.length=m.length/\∀ (i:Nat) (x y:α),l[i]?=some x->m[i]?=some y->f x y=true
 | [],[],_=>⟨rfl,fun i x y h=>by simp at h⟩
 | [],_::_,h=>by simp [eO]at h
 | _::_,[],h=>by simp [eO]at h
 | a::l,b::m,h=>by
   simp only [eO,Bool.and_eq_true]at h
   obtain ⟨h1,h2⟩:=wB l m h.2
   refine ⟨by simp [h1],fun i x y e1 e2=>?_⟩
   cases i with
   | zero=>simp at e1 e2;subst e1;subst e2;exact h.1
   | succ i=>exact h2 i x y (by simpa using e1) (by simpa using e2)
theorem CP {k:Nat}:∀ (l:List AV),(∀ x∈l,x.cells.length=k)->∀ (i j:Nat) (x y:AV),l[i]?=some x->x.cells[j]?=some y->(l.flatMap AV.cells)[i*k+j]?=some y
 | [],_,i,j,x,y,e,_=>by simp at e
 | a::l,h,i,j,x,y,e1,e2=>by
   have ha:a.cells.length=k:=h a (List.mem_cons_self ..)
   cases i with
   | zero=>
     simp at e1;subst e1
     have hj:=(List.getElem?_eq_some_iff.1 e2).1
     simp only [List.flatMap_cons,Nat.zero_mul,Nat.zero_add]
     rw [List.getElem?_append_left hj];exact e2
   | succ i=>
     simp only [List.flatMap_cons]
     rw [List.getElem?_append_right (by rw [ha,Nat.succ_mul];omega),show (i+1)*k+j-a.cells.length=i*k+j by rw [ha,Nat.succ_mul];omega]
     exact CP l (fun x hx=>h x (List.mem_cons_of_mem _ hx)) i j x y (by simpa using e1) e2
theorem EM {v:AV} {d:Nat} (h:v.under 0 d=true):Und 0 v:=fun _ V hV=>VR.cut d v V h hV
theorem zN {S:Sto}:∀ (d:Nat) (a b:AV),HX S d a b=true->Frz S 0 a b
 | 0,_,_,h=>by simp [HX]at h
 | d+1,a,b,h=>by
   have hrow:∀ {c:Tr AV} {off n:Nat} {r ys:List AV},c.row off n=some r->eO (HX S d) r ys=true->∀ (t:Nat) (y:AV),ys[t]?=some y->∃ x,c.get (off+t)=some x/\Frz S 0 x y:=by
    intro c off n r ys h1 h2 t y hy
    obtain ⟨k1,k2⟩:=Tr.row_spec c n off r h1
    obtain ⟨k3,k4⟩:=wB r ys h2
    have ht:t<r.length:=by rw [k3];exact (List.getElem?_eq_some_iff.1 hy).1
    exact ⟨r[t],by rw [k2 t (by omega)];exact List.getElem?_eq_getElem ht,zN d _ _ (k4 t _ y (List.getElem?_eq_getElem ht) hy)⟩
   unfold HX at h
   split at h
   ·rename_i id g off len cap l
    split at h
    ·rename_i g' m c hg
     cases l with
     | nil=>
       simp only [Bool.and_eq_true]at h
       obtain ⟨⟨h1,h2⟩,h3⟩:=h
       have e1:=Nat.eq_of_beq_eq_true h1
       have e2:=Nat.eq_of_beq_eq_true h2
       have e3:=Nat.le_of_ble_eq_true h3
       subst e1;subst e2
       exact .sl id g off 0 cap m 0 c [] (fun _ _=>.top) (Nat.zero_le _) hg rfl (by omega) (fun x hx=>nomatch hx) (fun i j x y e=>by simp at e) (fun i j x y e=>by simp at e)
     | cons x0 l0=>
       simp only [Bool.and_eq_true]at h
       obtain ⟨⟨⟨⟨h1,h2⟩,h3⟩,h4⟩,h5⟩:=h
       have e1:=Nat.eq_of_beq_eq_true h1
       have e2:=Nat.eq_of_beq_eq_true h2
       have e4:=Nat.le_of_ble_eq_true h4
       subst e1;subst e2
       have hk:∀ x∈x0::l0,x.cells.length=x0.cells.length:=fun x hx=>Nat.eq_of_beq_eq_true (List.all_eq_true.1 h3 x hx)
       generalize hk0:x0.cells.length=k at *
       split at h5
       ·rename_i r hr
        have key:=fun t y hy=>hrow hr h5 t y hy
        refine .sl id g off _ cap m k c (x0::l0) (fun i j=>(c.get (off+i*k+j)).getD .top) (Nat.zero_le _) hg rfl e4 hk (fun i j x y g1 g2=>?_) (fun i j x y g1 g2=>?_)
        ·obtain ⟨z,z1,_⟩:=key (i*k+j) y (CP _ hk i j x y g1 g2)
         rw [Nat.add_assoc,z1];rfl
        ·obtain ⟨z,z1,z2⟩:=key (i*k+j) y (CP _ hk i j x y g1 g2)
         rw [Nat.add_assoc,z1];exact z2
       ·cases h5
    ·cases h
   ·rename_i id g off v
    split at h
    ·rename_i g' m c hg
     simp only [Bool.and_eq_true]at h
     obtain ⟨⟨h1,h4⟩,h5⟩:=h
     have e1:=Nat.eq_of_beq_eq_true h1
     have e4:=Nat.le_of_ble_eq_true h4
     subst e1
     split at h5
     ·rename_i r hr
      have key:=fun t y hy=>hrow hr h5 t y hy
      refine .ptr id g off m c v (fun j=>(c.get (off+j)).getD .top) (Nat.zero_le _) hg e4 (fun j y g2=>?_) (fun j y g2=>?_)
      ·obtain ⟨z,z1,_⟩:=key j y g2
       rw [z1];rfl
      ·obtain ⟨z,z1,z2⟩:=key j y g2
       rw [z1];exact z2
     ·cases h5
    ·cases h
   ·obtain ⟨h1,h2⟩:=wB _ _ h
    exact .agg _ _ h1 fun i x y e1 e2=>zN d x y (h2 i x y e1 e2)
   ·obtain ⟨h1,h2⟩:=wB _ _ h
    exact .tuple _ _ h1 fun i x y e1 e2=>zN d x y (h2 i x y e1 e2)
   ·simp only [Bool.and_eq_true]at h
    have:=AV.beq_eq _ _ _ h.2
    subst this
    exact .und _ (EM h.1)
def bM (P:Program) (O:bN) (n:Nat) (f:FuncId) (args:List AV) (v:AV):Bool:=args.all (AV.under 0 100)&&match aNv P O n f args with
 | some (.ret w none,.no)=>AV.beq 1000 v w
 | some (.ret w (some S),.no)=>HX S 1000 w v
 | _=>false
theorem LQ {P:Program} {f:FuncId} {args:List AV} {v v':AV} {S:Sto} (h:bH P f args .empty (.ret v (some S))) (hf:Frz S 0 v v'):bH P f args .empty (.ret v' none):=by
 obtain ⟨hok,fn,hfn,hd⟩:=h
 refine ⟨hok,fn,hfn,fun σ w A kd stk m hrel ha hstk hrm=>?_⟩
 obtain ⟨τ,V,w',fr,m',q1,q2,q3,q4⟩:=hd σ w A kd stk m hrel ha hstk hrm
 obtain ⟨ρ,c1,c2⟩:=jH (s:=.empty) (S:=S) (v:=v) (v':=v') (Nat.zero_le _) hf σ τ w w' hrel q2
 exact ⟨ρ,V,w',fr,m',c2 V q1,c1,(by cases q3 with | normal=>exact .normal _ | quiet=>exact .quiet),q4⟩
theorem LR {P:Program} {O:bN} (hO:pH P O) {n:Nat} {f:FuncId} {args:List AV} {v:AV} (h:bM P O n f args v=true):Returns P f args v:=by
 simp only [bM,Bool.and_eq_true]at h
 obtain ⟨hu,h⟩:=h
 have hu':∀ x∈args,Und 0 x:=fun x hx=>EM (List.all_eq_true.1 hu x hx)
 split at h
 ·rename_i w hrun
  have hv:=AV.beq_eq _ _ _ h
  subst hv
  exact dC hu' (BS hO hrun)
 ·rename_i w S hrun
  exact dC hu' (LQ (BS hO hrun) (zN _ _ _ h))
 ·cases h
end
end Go.Abs
