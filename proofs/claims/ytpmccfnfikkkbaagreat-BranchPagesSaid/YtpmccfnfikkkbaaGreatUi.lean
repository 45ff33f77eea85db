/-
  The abstract machine: what is copied, appended, converted.
-/
import Derived.Test.YtpmccfnfikkkbaaGreatUd
set_option linter.unusedVariables false
set_option linter.unusedSimpArgs false
namespace Go.Abs
section
variable {P:Program} {σ:Sg} {S:Sto} {w:World}
theorem TO:∀ (fs:List Field) (ps:List (Nat × Nat)) (acc:Array (Nat × Nat)) (w:World),rI P fs=some ps->
 (fs.foldlM (fun b a=>b.push <$> do let n <-sizeOf a.type;pure (a.offset,n)) acc:Sem (Array (Nat × Nat))).run P w=.ok (acc++ps.toArray) w:=by
 intro fs
 induction fs with
 | nil=>intro ps acc w h;simp [rI]at h;subst h;simp
 | cons f fs e=>
   intro ps acc w h;simp only [rI]at h;split at h
   ·simp at h
   ·rename_i n c
    split at h
    ·simp at h
    ·rename_i r d
     simp at h;subst h;simp only [List.foldlM_cons,Sem.run_bind,Sem.run_map,aU c,Result.andThen_ok,Sem.run_pure];rw [e r _ w d];simp
theorem aBb {t:TypeId} {b:List (Nat × AV)} {a:Array (Nat × Value)} {v:AV} (h:pL P t b=some v) (D:b.length=a.size)
 (E:∀ (i:Nat) n x N X,b[i]?=some (n,x)->a[i]?=some (N,X)->n=N/\VR σ x X):∃ V,(∀ w,(Instr.build t a).run P w=.ok V w)/\VR σ v V:=by
 unfold pL at h;split at h
 ·rename_i z fields u r
  obtain ⟨Z,y,H,A,B,_⟩:=iJ u;split at h
  ·rename_i ps q
   split at h
   ·rename_i cs p
    simp at h;subst h
    have d:a.toList.length=b.length:=by simp [D]
    obtain ⟨c,e,l,_,_⟩:=KS (σ:=σ) _ b a.toList z.cells cs Z.cells p (A σ) d.symm (fun i n x N X m o=>E i n x N X m (by simpa using o)) B;refine ⟨.agg c,fun w=>?_,VR.agg_iff.2 ⟨_,rfl,l⟩⟩;simp only [Instr.build,Sem.run_bind,y,Result.andThen_ok,aC r]
    have G:(fields.mapM (fun f=>(do let n <-sizeOf f.type;pure (f.offset,n):Sem (Nat × Nat)))).run P w=.ok ps.toArray w:=by
     rw [Array.mapM_eq_foldlM,<-Array.foldlM_toList,TO _ _ _ w q];simp
    rw [G];simp only [Result.andThen_ok]
    have:Instr.fill (fun (x:Nat)=>ps.toArray[x]?) Z.cells a.toList=some c:=by
     have:(fun (x:Nat)=>ps.toArray[x]?)=fun (x:Nat)=>ps[x]?:=by funext i;simp
     rw [this];exact e
    rw [this];rfl
   ·simp at h
  ·simp at h
 ·rename_i z n C u r
  obtain ⟨Z,y,H,A,B,_⟩:=iJ u;split at h
  ·rename_i k F
   split at h
   ·rename_i cs p
    simp at h;subst h
    have d:a.toList.length=b.length:=by simp [D]
    obtain ⟨c,e,l,_,_⟩:=KS (σ:=σ) _ b a.toList z.cells cs Z.cells p (A σ) d.symm (fun i n x N X m o=>E i n x N X m (by simpa using o)) B;refine ⟨.agg c,fun w=>?_,VR.agg_iff.2 ⟨_,rfl,l⟩⟩;simp only [Instr.build,Sem.run_bind,y,Result.andThen_ok,aC r,aU F];rw [e];rfl
   ·simp at h
  ·simp at h
 ·simp at h
theorem xW {y:AV} {Y:Value} {n:Nat} (h:oK y=some n) (b:VR σ y Y):(Builtin.lenOf Y).run P w=.ok n w/\(∀ a l c,Y=.slice a l c->l=n):=by
 unfold oK at h;split at h
 ·cases b;simp at h;subst h;exact ⟨rfl,fun a l c e=>by cases e;rfl⟩
 ·cases b;simp at h;subst h;exact ⟨rfl,fun a l c e=>by cases e;rfl⟩
 ·cases b;simp at h;subst h;exact ⟨rfl,fun a l c e=>by cases e;rfl⟩
 ·obtain ⟨f,rfl,d⟩:=cD b
  simp at h;subst h;rw [<-qA d];exact ⟨rfl,fun a l c e=>by cases e⟩
 ·simp at h
theorem aLb {b k:Nat} (u:∀ off V,σ.m b off=some V->w.cell? ⟨b,off,none⟩=some V):∀ (xs:List AV) (o:Nat),(∀ x∈xs,x.cells.length=k)->
 (∀ i j x c V,xs[i]?=some x->x.cells[j]?=some c->σ.m b (o+i*k+j)=some V->VR σ c V)->(∀ i j,i<xs.length->j<k->(σ.m b (o+i*k+j)).isSome=true)->
 ∃ vs:List Value,VRs σ (xs.flatMap AV.cells) vs/\vs.length=xs.length*k/\∀ (q:Nat) v,vs[q]?=some v->w.cell? ⟨b,o+q,none⟩=some v:=by
 intro xs
 induction xs with
 | nil=>intro o _ _ _;exact ⟨[],VRs.nil σ,by simp,by simp⟩
 | cons x xs L=>
   intro o B C D
   obtain ⟨vs,E,F,G⟩:=L (o+k) (fun y A=>B y (by simp [A]))
    (fun i j y c V A r h=>C (i+1) j y c V (by simpa using A) r (by rw [<-h];congr 1;rw [Nat.add_mul];omega))
    (fun i j M e=>by
      have:=D (i+1) j (by simp;omega) e
      rw [<-this];congr 2;rw [Nat.add_mul];omega)
   have H:x.cells.length=k:=B x (by simp)
   have f:∀ j,j<k->(σ.m b (o+j)).isSome=true:=fun j e=>by
    have:=D 0 j (by simp) e
    simpa using this
   let a:List Value:=(List.range k).map fun j=>(σ.m b (o+j)).getD undef
   have l:∀ (j:Nat) v,a[j]?=some v->j<k/\σ.m b (o+j)=some v:=by
    intro j v d
    have e:j<k:=by
     rcases Nat.lt_or_ge j k with p | p
     ·exact p
     ·rw [List.getElem?_eq_none (by simpa [a] using p)]at d;cases d
    obtain ⟨V,h⟩:=Option.isSome_iff_exists.1 (f j e);simp [a,e,h]at d;exact ⟨e,by rw [h,d]⟩
   refine ⟨a++vs,?_,by simp [a,F,Nat.add_mul];omega,fun q v d=>?_⟩
   ·rw [List.flatMap_cons]
    refine VRs.append ⟨by simp [a,H],fun j c V r h=>?_⟩ E;obtain ⟨e,I⟩:=l j V h;exact C 0 j x c V rfl r (by simpa using I)
   ·by_cases J:q<k
    ·rw [List.getElem?_append_left (by simpa [a] using J)]at d
     exact u _ _ (l q v d).2
    ·rw [List.getElem?_append_right (by simp [a];omega)]at d
     have:=G (q-a.length) v d;rw [<-this];congr 2;simp [a];omega
theorem pY {k n:Nat} {y:AV} {Y:Value} {l:List AV} (h:Rel σ S w) (d:dV S k n y=some l) (J:VR σ y Y):
 ∃ Ls:List Value,(∀ w',w'.heap=w.heap->(Builtin.firstCells k n Y).run P w'=.ok Ls.toArray w')/\VRs σ l Ls/\l.length=n*k/\(∀ (c:List AV),y=.fz c true->c.length=n->l.all AV.isCell=true):=by
 unfold dV at d;split at d
 ·rename_i id g off len cap
  rw [lH]at d;split at d
  ·rename_i F
   split at d
   ·rename_i g' m c r
    cases e:(Nat.beq g g'&&Nat.ble (off+n*k) m) with
    | false=>simp [e]at d
    | true=>
      simp only [e,cond_true]at d;simp only [Bool.and_eq_true,Nat.beq_eq,Nat.ble_eq]at e;obtain ⟨rfl,ab⟩:=e;obtain ⟨f,p⟩:=Tr.row_spec c _ _ _ d;obtain ⟨b,base,arr,el,fr,N,h2,h3,O,h5⟩:=h.cells r
      cases J with
      | sl _ _ _ _ _ b' base' sz' C hs hC aa=>
        rw [N]at hs
        obtain ⟨rfl,rfl,rfl⟩:b=b'/\base=base'/\arr.size=sz':=by simpa using hs
        let vs:List Value:=(List.range (n*k)).map fun j=>arr.getD (base+off+j) undef
        have u:∀ (j:Nat) v,vs[j]?=some v->j<n*k/\arr[base+off+j]?=some v:=by
         intro j v u
         have q:j<n*k:=by
          rcases Nat.lt_or_ge j (n*k) with M | M
          ·exact M
          ·rw [List.getElem?_eq_none (by simpa [vs] using M)]at u;cases u
         have I:base+off+j<arr.size:=by omega
         simp [vs,q,Array.getD_eq_getD_getElem?,Array.getElem?_eq_getElem I]at u;exact ⟨q,by rw [Array.getElem?_eq_getElem I,u]⟩
        refine ⟨vs,?_,⟨by simp [vs,f],fun j x X G hX=>?_⟩,f,fun c e=>by cases e⟩
        ·intro w' A
         have:=iK (P:=P) (w:=w') b vs (base+off) 0 #[] (fun j v q=>by
          have:=(u j v q).2
          simp [World.cell?,A,h2,this])
         simp only [Builtin.firstCells,loadCells];rw [show n*k=vs.length by simp [vs],this];simp
        ·obtain ⟨q,R⟩:=u j X hX
         rw [<-p j q]at G;obtain ⟨V,B,H⟩:=O (off+j) x (by omega) G;rw [<-Nat.add_assoc,R]at B;cases B;exact H
   ·simp at d
  ·simp at d
 ·rw [fA]at d
  split at d
  ·rename_i F;subst F
   simp at d;subst d;cases J;exact ⟨[],fun w' _=>by simp [Builtin.firstCells],VRs.nil σ,by simp,fun c e=>by cases e⟩
  ·simp at d
 ·rename_i xs Z
  rw [lH]at d;split at d
  ·rename_i F
   cases e:((xs.take n).all (fun x=>Nat.beq x.cells.length k)&&((xs.take n).flatMap AV.cells).all AV.isCell) with
   | false=>simp only [e,cond_false,reduceCtorEq]at d
   | true=>
     simp only [e,cond_true,Option.some.injEq]at d;subst d;simp only [Bool.and_eq_true]at e
     cases J with
     | fz _ _ a C b o k' N h2 h3 O h5 h6=>
       have hk:∀ x∈xs.take n,x.cells.length=k:=fun x r=>by
        have:=List.all_eq_true.1 e.1 x r
        simpa using this
       by_cases U:n=0
       ·subst U
        refine ⟨[],?_,by simpa using VRs.nil σ,by simp,fun _ _ _=>e.2⟩;intro w' _;simp [Builtin.firstCells,loadCells,loadCellsFrom]
       ·have f:(xs.take n).length=n:=by simp;omega
        have T:k'=k:=by
         have r:xs[0]'(by omega)∈xs.take n:=by
          have:(xs.take n)[0]'(by omega)∈xs.take n:=List.getElem_mem _
          simpa using this
         rw [<-O _ (List.mem_of_mem_take r),hk _ r]
        subst T;have ha:=N (by omega);subst ha
        have p:∀ (i:Nat) x,(xs.take n)[i]?=some x->xs[i]?=some x:=by
         intro i x E;rw [List.getElem?_take]at E;split at E
         ·exact E
         ·cases E
        obtain ⟨vs,B,H,e3⟩:=aLb (w:=w) (σ:=σ) (fun off V Q=>(h.mu b off V Q).1) (xs.take n) o hk
         (fun i j x c V r e Q=>h5 i j x c V (p i x r) e Q) (fun i j E q=>h6 i j (by omega) q)
        refine ⟨vs,?_,B,by rw [B.1,H,f],fun _ _ _=>e.2⟩;intro w' A
        have:=iK (P:=P) (w:=w') b vs o 0 #[] (fun j v q=>by
         have:=e3 j v q
         rw [<-this];simp [World.cell?,A])
        simp only [Builtin.firstCells,loadCells];rw [show n*k'=vs.length by rw [H,f],this];simp
  ·simp at d
 ·rename_i s
  cases e:(Nat.ble n s.length&&Nat.beq k 1) with
  | false=>simp [e]at d
  | true=>
    simp only [e,cond_true,Option.some.injEq]at d;subst d;simp only [Bool.and_eq_true,Nat.ble_eq,Nat.beq_eq]at e;obtain ⟨F,rfl⟩:=e;obtain ⟨L,rfl,I⟩:=cD J;subst I
    have D:(L.extract 0 n).data.toList=L.data.toList.take n:=by rw [Lib.extract_data];simp
    refine ⟨(L.data.toList.take n).map fun b=>Value.int .u8 b.toNat,?_,?_,?_,fun c e=>by cases e⟩
    ·intro w' _
     simp only [Builtin.firstCells,Sem.run_pure]
     congr 1
     apply Array.toList_inj.1;rw [Array.toList_map,D]
    ·rw [fP,<-List.map_take,List.map_map]
     exact VRs.map _ _ _ fun x _=>.int _ _
    ·simp only [fP,List.length_map,List.length_take]
     simp at F ⊢;omega
 ·simp at d
theorem aBc (need:Nat):∀ (r c:Nat),Builtin.growBy need r c<=max c (need+(need+768)/4):=by
 intro r
 induction r with
 | zero=>intro c;simp [Builtin.growBy];omega
 | succ r a=>
   intro c;simp only [Builtin.growBy];split
   ·omega
   ·rename_i h
    have:=a (c+(c+768)/4);omega
theorem rW {need old:Nat} (h:old<need):Builtin.nextslicecap need old<=2*need+1024:=by
 unfold Builtin.nextslicecap;split
 ·omega
 ·split
  ·omega
  ·have:=aBc need 4 old
   omega
theorem nT (z:Array Value) (n:Nat):(Builtin.zeroCells z n).size=n*z.size:=by simp [Builtin.zeroCells]
theorem append_grow {t e u:TypeId} {d:TypeDesc} {k by_ n a b:Nat} {z:AV} {base:Option Addr} {Y:Value} {OLD NEW:List Value} (hu:P.underlying t=some (.slice e)) (U:rX P e=some k) (l:nW P e=some by_)
 (hz:bB P e=some z) (O:z.cells.length=k) (R:P.underlying u=some d) (H:∀ k,d≠.int k) (y:(Builtin.lenOf Y).run P w=.ok n w)
 (A:∀ w',w'.heap=w.heap->(Builtin.firstCells k n Y).run P w'=.ok NEW.toArray w') (B:∀ w',w'.heap=w.heap->(Builtin.firstCells k a (.slice base a b)).run P w'=.ok OLD.toArray w') (f:fG (a+n) by_=true) (I:b<a+n)
 (p:OLD.length=a*k) (o:NEW.length=n*k):
 ∃ (C:Nat) (arr:Array Value),(Builtin.append_ #[t,u] t #[.slice base a b,Y]).run P w=.ok (.slice (some ⟨w.heap.size,0,none⟩) (a+n) C) (w.drew.alloc (.cells arr e))/\a+n<=C/\arr.size=C*k/\
   ∀ (i:Nat) V,(OLD++NEW)[i]?=some V->arr[i]?=some V:=by
 obtain ⟨Z,z1,_,z3,_,_⟩:=iJ hz;obtain ⟨i,r,J⟩:=rF l w
 have F:Z.cells.size=k:=by
  have:=(z3 Sg.nil).1
  rw [O]at this;simpa using this.symm
 simp only [fG,Bool.and_eq_true,Nat.ble_eq,Nat.blt_eq]at f;obtain ⟨aa,ab⟩:=f
 have m:¬ (a+n<=b):=by omega
 have Q:¬ (((a+n:Nat):Int) > IntKind.i64.max):=by simp [IntKind.max,IntKind.signed,IntKind.bits];omega
 have q:=rW I
 have h:¬ (Builtin.nextslicecap (a+n) b*by_ > 2 ^ 48):=by
  have:Builtin.nextslicecap (a+n) b*by_<=(2*(a+n)+1024)*by_:=Nat.mul_le_mul_right _ q;omega
 have T:(match (generalizing:=false) d with | TypeDesc.int _=>true | _=>false)=false:=by cases d<;>first | rfl | exact absurd rfl (H _)
 let c:=(a+n)+(w.tape w.drawn (.appendCap (a+n) b e))%(2 ^ 63-(a+n))
 refine ⟨c,OLD.toArray++(NEW.toArray++Builtin.zeroCells Z.cells (c-(a+n))),?_,by omega,?_,fun i V E=>?_⟩
 ·have N:∀ w',(typeInfo e).run P w'=.ok i w':=fun w'=>by
   unfold nW at l
   cases v:P.info? e with
   | none=>simp [v]at l
   | some j=>
     rw [cX v]at r ⊢;cases r;rfl
  have ho:=B w.drew rfl;have X:=A w.drew rfl
  have G:¬ (281474976710656<Builtin.nextslicecap (a+n) b*by_):=by simpa using h
  have M:¬ ((9223372036854775807:Int)<(a:Int)+(n:Int)/\by_=0):=by omega
  simp [Builtin.append_,aC hu,aU U,aC R,y,m,M,N,J,G,Question.forced,Question.cut,z1,ho,X,gO,c]
 ·simp [nT,p,o,F,<-Nat.add_mul];congr 1;omega
 ·have L:i<(OLD++NEW).length:=by
   rcases Nat.lt_or_ge i (OLD++NEW).length with D | D
   ·exact D
   ·rw [List.getElem?_eq_none D]at E;cases E
  rw [<-Array.append_assoc,Array.getElem?_append_left (by simpa using L),<-E];simp
def FB (σ:Sg) (S:Sto) (w:World) (run:Value->World->Prop):ORes->Prop
 | .val v=>∃ V w',run V w'/\VR σ v V/\Quiet w w'
 | .val' v a=>∃ τ V w',run V w'/\VR τ v V/\Stp σ S w τ a w'
 | _=>False
theorem uR {k by_ len:Nat} {old new:List AV} {OLD NEW:List Value} {r:ORes} {e t u:TypeId} {X Y:Value} {C:Nat} {arr:Array Value} (h:Rel σ S w) (a:gX S k by_ old new len=some r)
 (f:VRs σ old OLD) (d:VRs σ new NEW) (l:(Builtin.append_ #[t,u] t #[X,Y]).run P w=.ok (.slice (some ⟨w.heap.size,0,none⟩) len C) (w.drew.alloc (.cells arr e)))
 (y:len<=C) (m:arr.size=C*k) (b:OLD.length+NEW.length<=arr.size) (c:∀ (i:Nat) V,(OLD++NEW)[i]?=some V->arr[i]?=some V):
 FB σ S w (fun V w'=>(Builtin.append_ #[t,u] t #[X,Y]).run P w=.ok V w') r:=by
 unfold gX at a
 cases p:fG len by_ with
 | false=>simp [p]at a
 | true=>
   simp only [p,cond_true]at a;split at a
   ·rename_i id B A
    simp at a;subst a;obtain ⟨τ,q,v⟩:=uS (w:=w.drew) e (0,0) (h.world rfl) A (f.append d) (by simpa using b) c (fun o _=>by omega);refine ⟨τ,_,_,l,?_,(Stp.drew h).trans q⟩;have:=VR.sl (σ:=τ) id 0 0 len (.room k) w.heap.size 0 arr.size C v y (by show 0+0+C*k<=arr.size;omega);exact this
   ·simp at a
theorem lQ {t e u:TypeId} {d:TypeDesc} {k n b c:Nat} {base:Option Addr} {Y:Value} {NEW:List Value} {w':World} (v:P.underlying t=some (.slice e)) (r:rX P e=some k)
 (q:P.underlying u=some d) (m:∀ k,d≠.int k) (f:(Builtin.lenOf Y).run P w=.ok n w) (h:(Builtin.firstCells k n Y).run P w=.ok NEW.toArray w) (l:b+n<=c)
 (p:∀ a,base=some a->(storeCells (a.add (b*k)) NEW).run P w=.ok () w') (o:base=none->w'=w):
 (Builtin.append_ #[t,u] t #[.slice base b c,Y]).run P w=.ok (.slice base (b+n) c) w':=by
 have y:(match (generalizing:=false) d with | TypeDesc.int _=>true | _=>false)=false:=by cases d<;>first | rfl | exact absurd rfl (m _)
 cases base with
 | none=>
   obtain rfl:=o rfl;simp [Builtin.append_,aC v,aU r,aC q,f,l,h]
 | some a=>
   have:=p a rfl;simp [Builtin.append_,aC v,aU r,aC q,f,l,h,this]
theorem TP {t u:TypeId} {d:TypeDesc} {x y:AV} {X Y:Value} {r:ORes} (h:Rel σ S w) (f:yC P S t x y=some r) (hx:VR σ x X) (hy:VR σ y Y) (hd:P.underlying u=some d) (O:∀ k,d≠.int k):
 FB σ S w (fun V w'=>(Builtin.append_ #[t,u] t #[X,Y]).run P w=.ok V w') r:=by
 unfold yC at f;split at f
 ·rename_i e hu
  split at f
  ·rename_i k by_ z n hk av hz ao
   obtain ⟨B,_⟩:=xW (P:=P) (w:=w) ao hy;split at f
   ·simp at f
   ·rename_i new ap
    obtain ⟨NEW,n1,n2,n3,_⟩:=pY (P:=P) h ap hy
    have hN:NEW.length=n*k:=by rw [<-n2.1];exact n3
    cases hc:(Nat.beq z.cells.length k&&new.all AV.isCell) with
    | false=>simp [hc]at f
    | true=>
      simp only [hc,cond_true]at f;simp only [Bool.and_eq_true,Nat.beq_eq]at hc;obtain ⟨bb,U⟩:=hc
      have F:=fun (base:Option Addr) (J ae:Nat) (OLD:List Value) (I:∀ w',w'.heap=w.heap->(Builtin.firstCells k J (.slice base J ae)).run P w'=.ok OLD.toArray w') (l:fG (J+n) by_=true) (am:ae<J+n) (T:OLD.length=J*k)=>
       append_grow (P:=P) (w:=w) (u:=u) hu hk av hz bb hd O B n1 I l am T hN
      split at f
      ·-- nils
       cases hx with
       | nils=>
         rw [fA]at f;split at f
         ·rename_i ab;subst ab
          simp at f;subst f;refine ⟨_,w,lQ hu hk hd O B (n1 w rfl) (Nat.le_refl _) (fun a e=>by cases e) (fun _=>rfl),.nils,Quiet.refl w⟩
         ·rename_i ab
          have l:fG n by_=true:=by
           unfold gX at f
           cases hr:fG n by_ with
           | true=>rfl
           | false=>simp [hr]at f
          obtain ⟨C,arr,g1,R,g3,g4⟩:=F none 0 0 [] (fun w' _=>by simp [Builtin.firstCells]) (by simpa using l) (by omega) (by simp);rw [Nat.zero_add]at g1 R;exact uR h f (VRs.nil σ) n2 g1 R g3 (by simp [hN,g3];exact Nat.mul_le_mul_right _ R) g4
      ·-- fz
       rename_i xs
       cases hx with
       | fz _ _ a C b o k' h1 h2 h3 h4 h5 h6=>
         have hC:=h3 rfl;subst hC;rw [fA]at f;split at f
         ·rename_i ab;subst ab
          simp at f;subst f;have aq:NEW=[]:=List.eq_nil_of_length_eq_zero (by omega);refine ⟨_,w,lQ hu hk hd O B (n1 w rfl) (by omega) (fun a e=>by subst aq;simp [storeCells]) (fun _=>rfl),.fz _ _ a _ b o k' h1 h2 (fun _=>rfl) h4 h5 h6,Quiet.refl w⟩
         ·rename_i ab
          split at f
          ·rename_i old I
           have ba:VR σ (.fz xs true) (.slice a xs.length xs.length):=.fz _ _ a _ b o k' h1 h2 (fun _=>rfl) h4 h5 h6;obtain ⟨OLD,o1,o2,o3,_⟩:=pY (P:=P) h I ba
           have T:OLD.length=xs.length*k:=by rw [<-o2.1];exact o3
           have l:fG (xs.length+n) by_=true:=by
            unfold gX at f
            cases hr:fG (xs.length+n) by_ with
            | true=>rfl
            | false=>simp [hr]at f
           obtain ⟨C,arr,g1,R,g3,g4⟩:=F a xs.length xs.length OLD o1 l (by omega) T;exact uR h f o2 n2 g1 R g3 (by rw [g3,T,hN,<-Nat.add_mul];exact Nat.mul_le_mul_right _ R) g4
          ·simp at f
      ·-- sl,the capacity known
       rename_i id g off len c;rw [lH]at f;split at f
       ·rename_i Z
        split at f
        ·rename_i g' m cs D
         cases A:(Nat.beq g g'&&Nat.ble (off+c*k) m) with
         | false=>simp [A]at f
         | true=>
           simp only [A,cond_true,Option.some.injEq]at f;subst f;simp only [Bool.and_eq_true,Nat.beq_eq,Nat.ble_eq]at A;obtain ⟨rfl,hm⟩:=A
           cases hx with
           | sl _ _ _ _ _ b base sz C hs hl E=>
             have af:C=c:=E;subst af;have H:(len+n)*k<=C*k:=Nat.mul_le_mul_right _ Z;rw [Nat.add_mul]at H;obtain ⟨w',e1,L⟩:=xZ (P:=P) (cs:=new) (off:=off+len*k) (o:=base+off+len*k) h D ⟨_,hs⟩ (by rw [n3];omega) n2 U (by omega);refine ⟨σ,_,w',lQ hu hk hd O B (n1 w rfl) Z (fun a e=>by cases e;rw [dI];exact e1) (fun e=>by cases e),.sl _ _ _ _ _ b base sz C hs Z rfl,L⟩
        ·simp at f
       ·rename_i am
        split at f
        ·rename_i old I
         obtain ⟨OLD,o1,o2,o3,_⟩:=pY (P:=P) h I hx
         have T:OLD.length=len*k:=by rw [<-o2.1];exact o3
         cases hx with
         | sl _ _ _ _ _ b base sz C hs hl E=>
           have af:C=c:=E;subst af
           have l:fG (len+n) by_=true:=by
            unfold gX at f
            cases hr:fG (len+n) by_ with
            | true=>rfl
            | false=>simp [hr]at f
           obtain ⟨C',arr,g1,R,g3,g4⟩:=F (some ⟨b,base+off,none⟩) len C OLD o1 l (by omega) T;exact uR h f o2 n2 g1 R g3 (by rw [g3,T,hN,<-Nat.add_mul];exact Nat.mul_le_mul_right _ R) g4
        ·simp at f
      ·-- sl,with room
       rename_i id g off len r';split at f
       ·rename_i g' m cs D
        cases A:(Nat.beq g g'&&Nat.beq k r'&&Nat.beq (off+len*k) m&&fG (len+n) by_) with
        | false=>simp [A]at f
        | true=>
          simp only [A,cond_true]at f;simp only [Bool.and_eq_true,Nat.beq_eq]at A;obtain ⟨⟨⟨rfl,rfl⟩,hm⟩,l⟩:=A
          cases hx with
          | sl _ _ _ _ _ b base sz C hs hl E=>
            have M:base+off+C*k<=sz:=E;obtain ⟨b',base',arr,el,fr,a1,a2,a3,a4,a5⟩:=h.cells D;rw [a1]at hs
            obtain ⟨rfl,rfl,rfl⟩:b'=b/\base'=base/\arr.size=sz:=by simpa using hs
            have bc:∀ (Q:Tr AV) (N:Nat),((off=0/\Q=cs.lay m new/\N=m+n*k)∨(∃ old,cs.row off (len*k)=some old/\Q=Tr.leaf.lay 0 (old++new)/\N=(len+n)*k))->
             N=(len+n)*k/\∀ i a,i<N->Q.get i=some a->(∃ V,i<len*k/\arr[base'+off+i]?=some V/\VR σ a V)∨(∃ V,len*k<=i/\NEW[i-len*k]?=some V/\VR σ a V):=by
             intro Q N ai
             rcases ai with ⟨h0,rfl,rfl⟩ | ⟨old,ac,rfl,rfl⟩
             ·subst h0
              refine ⟨by rw [Nat.add_mul];omega,fun i a hi p=>?_⟩;rw [Tr.get_lay]at p;split at p
              ·rename_i hr
               obtain ⟨V,hV,ag⟩:=n2.get p;exact .inr ⟨V,by omega,by rw [<-hV];congr 1;omega,ag⟩
              ·rename_i hr
               have ax:i<m:=by rw [n3]at hr;omega
               obtain ⟨V,e1,L⟩:=a4 i a ax p;exact .inl ⟨V,by omega,by simpa using e1,L⟩
             ·obtain ⟨ar,ay⟩:=Tr.row_spec cs _ _ _ ac
              refine ⟨rfl,fun i a hi p=>?_⟩;rw [Tr.get_lay]at p;simp only [Nat.zero_add,Nat.zero_le,true_and,List.length_append,ar,n3,Nat.sub_zero]at p;rw [Nat.add_mul]at hi;rw [if_pos hi]at p;by_cases an:i<len*k
              ·rw [List.getElem?_append_left (by omega),<-ay i an]at p
               obtain ⟨V,e1,L⟩:=a4 (off+i) a (by omega) p;exact .inl ⟨V,an,by rw [Nat.add_assoc];exact e1,L⟩
              ·rw [List.getElem?_append_right (by omega),ar]at p
               obtain ⟨V,hV,ag⟩:=n2.get p;exact .inr ⟨V,by omega,hV,ag⟩
            obtain ⟨Q,N,ai,hr⟩:∃ Q N,((off=0/\Q=cs.lay m new/\N=m+n*k)∨(∃ old,cs.row off (len*k)=some old/\Q=Tr.leaf.lay 0 (old++new)/\N=(len+n)*k))/\r=.val' (.sl id (g+1) 0 (len+n) (.room k)) (S.put id (.cells (g+1) N Q)):=by
             rw [fA]at f;split at f
             ·rename_i h0
              simp at f;exact ⟨_,_,.inl ⟨h0,rfl,rfl⟩,f.symm⟩
             ·split at f
              ·rename_i old ac
               simp at f;exact ⟨_,_,.inr ⟨old,ac,rfl,rfl⟩,f.symm⟩
              ·simp at f
            subst hr;obtain ⟨ak,ad⟩:=bc Q N ai
            have G:σ id (g+1)=none:=by
             cases ah:σ id (g+1) with
             | none=>rfl
             | some v=>have:=h.gen id _ _ v D ah;simp only [dK]at this;omega
            have aa:N<=C*k∨C<len+n:=by
             by_cases ah:len+n<=C
             ·exact .inl (by rw [ak];exact Nat.mul_le_mul_right _ ah)
             ·exact .inr (by omega)
            by_cases aj:len+n<=C
            ·have H:(len+n)*k<=C*k:=Nat.mul_le_mul_right _ aj
             rw [Nat.add_mul]at H;obtain ⟨w',q,e1,L,e3,e4⟩:=tB (P:=P) b' el fr NEW (base'+off+len*k) 0 w arr a2 (by rw [hN];omega) (AX n2 U) a5;simp only [Nat.add_zero]at e4
             have al:=IM (w':=w') (y:=.cells (g+1) N Q) (b':=b') (base':=base'+off) (sz':=arr.size) h D a1 rfl L.at_
              (.cells _ _ _ q el fr e3 (by rw [ak,Nat.add_mul];omega) (fun i a hi p=>by
                rcases ad i a hi p with ⟨V,q1,q2,q3⟩ | ⟨V,q1,q2,q3⟩
                ·refine ⟨V,?_,q3.mono (Sg.le_upd _ G)⟩
                 rw [e4,if_neg (by omega)];exact q2
                ·refine ⟨V,?_,q3.mono (Sg.le_upd _ G)⟩
                 rw [e4,if_pos (by rw [hN,ak,Nat.add_mul]at *;omega),<-q2];congr 1;omega) a5)
              (.inl rfl) (by rw [L.size];exact Nat.le_refl _) (fun c _ hc=>L.rest c hc) L.os L.out L.tape
             refine ⟨_,_,w',lQ hu hk hd O B (n1 w rfl) aj (fun a e=>by cases e;rw [dI];exact e1) (fun e=>by cases e),?_,al⟩;have:=VR.sl (σ:=σ.upd id (g+1) (b',base'+off,arr.size)) id (g+1) 0 (len+n) (.room k) b' (base'+off) arr.size C (Sg.upd_same _ _ _ _) aj (by show base'+off+0+C*k<=arr.size;omega);exact this
            ·let OLD:List Value:=(List.range (len*k)).map fun j=>arr.getD (base'+off+j) undef
             have au:∀ (j:Nat) v,OLD[j]?=some v->j<len*k/\arr[base'+off+j]?=some v:=by
              intro j v hv
              have hj:j<len*k:=by
               rcases Nat.lt_or_ge j (len*k) with h' | h'
               ·exact h'
               ·rw [List.getElem?_eq_none (by simpa [OLD] using h')]at hv;cases hv
              have hb:base'+off+j<arr.size:=by omega
              simp [OLD,hj,Array.getD_eq_getD_getElem?,Array.getElem?_eq_getElem hb]at hv;exact ⟨hj,by rw [Array.getElem?_eq_getElem hb,hv]⟩
             have T:OLD.length=len*k:=by simp [OLD]
             obtain ⟨C',q,g1,R,g3,g4⟩:=F (some ⟨b',base'+off,none⟩) len C OLD (fun w' az=>by
              have:=iK (P:=P) (w:=w') b' OLD (base'+off) 0 #[] (fun j v hj=>by
               have:=(au j v hj).2
               simp [World.cell?,az,a2,this])
              simp only [Builtin.firstCells,loadCells]
              rw [show len*k=OLD.length from T.symm,this];simp) l (by omega) T
             have bd:(len+n)*k<=q.size:=by rw [g3];exact Nat.mul_le_mul_right _ R
             have al:=IM (w:=w.drew) (w':=w.drew.alloc (.cells q e)) (y:=.cells (g+1) N Q) (b':=w.heap.size) (base':=0) (sz':=q.size) (h.world rfl) D a1 rfl (pK w.drew _)
              (.cells _ _ _ q e (0,0) rfl (by omega) (fun i a hi p=>by
                rw [Nat.zero_add]
                rcases ad i a hi p with ⟨V,q1,q2,q3⟩ | ⟨V,q1,q2,q3⟩
                ·refine ⟨V,g4 i V ?_,q3.mono (Sg.le_upd _ G)⟩
                 rw [List.getElem?_append_left (by omega)]
                 have:OLD[i]?=some (arr.getD (base'+off+i) undef):=by simp [OLD,q1]
                 rw [this,Array.getD_eq_getD_getElem?,q2];rfl
                ·refine ⟨V,g4 i V ?_,q3.mono (Sg.le_upd _ G)⟩
                 rw [List.getElem?_append_right (by omega),T];exact q2) (fun o _=>by omega))
              (.inr (Nat.le_refl _)) (by simp) (fun c hc _=>mP w.drew _ hc) rfl rfl rfl
             refine ⟨_,_,_,g1,?_,(Stp.drew h).trans al⟩;have:=VR.sl (σ:=σ.upd id (g+1) (w.heap.size,0,q.size)) id (g+1) 0 (len+n) (.room k) w.heap.size 0 q.size C' (Sg.upd_same _ _ _ _) R (by show 0+0+C'*k<=q.size;omega);exact this
       ·simp at f
      ·-- sl,with room for at least c
       rename_i id g off len r' c;rw [lH]at f;split at f
       ·rename_i Z
        split at f
        ·rename_i g' m cs D
         cases A:(Nat.beq g g'&&Nat.beq k r'&&Nat.ble (off+c*k) m) with
         | false=>simp [A]at f
         | true=>
           simp only [A,cond_true,Option.some.injEq]at f;subst f;simp only [Bool.and_eq_true,Nat.beq_eq,Nat.ble_eq]at A;obtain ⟨⟨rfl,rfl⟩,hm⟩:=A
           cases hx with
           | sl _ _ _ _ _ b base sz C hs hl E=>
             obtain ⟨aw,M⟩:c<=C/\base+off+C*k<=sz:=E;have H:(len+n)*k<=c*k:=Nat.mul_le_mul_right _ Z;rw [Nat.add_mul]at H
             have aa:len+n<=C:=by omega
             obtain ⟨w',e1,L⟩:=xZ (P:=P) (cs:=new) (off:=off+len*k) (o:=base+off+len*k) h D ⟨_,hs⟩ (by rw [n3];omega) n2 U (by omega);refine ⟨σ,_,w',lQ hu hk hd O B (n1 w rfl) aa (fun a e=>by cases e;rw [dI];exact e1) (fun e=>by cases e),.sl _ _ _ _ _ b base sz C hs aa (rH M aw),L⟩
        ·simp at f
       ·simp at f
      ·simp at f
  ·simp at f
 ·simp at f
end
end Go.Abs
/-
 The abstract machine: copies,conversions,maps,assertions.
-/
namespace Go.Abs
section
variable {P:Program} {σ:Sg} {S:Sto} {w:World}
theorem aGd {t u:TypeId} {x y:AV} {X Y:Value} {r:ORes} (h:Rel σ S w) (a:PT P S t x y=some r) (I:VR σ x X) (O:VR σ y Y):
 FB σ S w (fun V w'=>∀ (E:Array TypeId),E[0]?=some t->(Builtin.copy_ E u #[X,Y]).run P w=.ok V w') r:=by
 unfold PT at a;split at a
 ·rename_i e N
  split at a
  ·rename_i k F J M G H
   obtain ⟨_,q⟩:=xW (P:=P) (w:=w) G I;obtain ⟨c,_⟩:=xW (P:=P) (w:=w) H O;split at a
   ·simp at a
   ·rename_i new B
    obtain ⟨NEW,Z,n2,n3,_⟩:=pY (P:=P) h B O;have l:=Z w rfl;split at a
    ·cases I
     simp at a;subst a;have d:(0:Nat)=F:=q none 0 0 rfl;subst d
     have A:Nat.min J 0=0:=by simp
     rw [A]at l;refine ⟨.int .i64 0,w,fun E f=>?_,.int _ _,Quiet.refl w⟩;simp [Builtin.copy_,f,aC N,c,aU M,l,goInt]
    ·rename_i id g off len cap
     split at a
     ·rename_i g' m cs v
      cases D:(Nat.beq g g'&&Nat.ble (off+Nat.min J F*k) m&&new.all AV.isCell) with
      | false=>simp only [D,cond_false,reduceCtorEq]at a
      | true=>
        simp only [D,cond_true,Option.some.injEq]at a;subst a;simp only [Bool.and_eq_true,Nat.beq_eq,Nat.ble_eq]at D;obtain ⟨⟨rfl,T⟩,p⟩:=D
        cases I with
        | sl _ _ _ _ _ b base sz C U hl L=>
          have d:len=F:=q _ _ _ rfl;subst d;obtain ⟨w',Q,R⟩:=xZ (P:=P) (cs:=new) (off:=off) (o:=base+off) h v ⟨_,U⟩ (by rw [n3];exact T) n2 p rfl;refine ⟨σ,.int .i64 (Nat.min J len:Nat),w',fun E f=>?_,.int _ _,R⟩;simp [Builtin.copy_,f,aC N,c,aU M,l,goInt,Q]
     ·simp at a
    ·simp at a
  ·simp at a
 ·simp at a
theorem PM {α:Type} (xs:Array α) (a:α) (f:α->α):(xs.push a).modify xs.size f=xs.push (f a):=by
 apply Array.ext
 ·simp
 ·intro i d b
  rw [Array.getElem_modify];by_cases c:xs.size=i
  ·subst c;simp
  ·rw [if_neg c,Array.getElem_push_lt (by simp at b;omega),Array.getElem_push_lt (by simp at b;omega)]
theorem FC {e:TypeId} {b:List Nat} {a:ByteArray} {id:Nat} {A:Sto} (h:Rel σ S w) (F:oJ S (fP b)=some (id,A)) (B:a.data.toList.map (·.toNat)=b):
 ∃ τ V w',(Conv.stringToBytes e a).run P w=.ok V w'/\VR τ (.sl id 0 0 b.length (.room 1)) V/\Stp σ S w τ A w':=by
 have v:=qA B
 let cap:=a.size+(w.tape w.drawn (.appendCap a.size 0 e))%(2 ^ 63-a.size)
 let arr:Array Value:=(a.data.map fun b=>Value.int .u8 b.toNat)++Array.replicate (cap-a.size) (.int .u8 0)
 have d:arr.size=cap:=by
  have:(a.data.map fun b=>Value.int .u8 b.toNat).size=a.size:=by simp
  show ((a.data.map fun b=>Value.int .u8 b.toNat)++Array.replicate (cap-a.size) (Value.int .u8 0)).size=cap;rw [Array.size_append,this,Array.size_replicate];omega
 have y:VRs σ (fP b) (a.data.toList.map fun b=>Value.int .u8 b.toNat):=by
  rw [<-B,fP,List.map_map]
  exact VRs.map _ _ _ fun x _=>.int _ _
 have k:(a.data.toList.map fun b=>Value.int .u8 b.toNat).length=a.size:=by rw [List.length_map,Array.length_toList];rfl
 obtain ⟨τ,D,E⟩:=uS (w:=w.drew) (arr:=arr) e (cap,cap+1) (h.world rfl) F y (Nat.le_trans (Nat.le_of_eq k) (by rw [d];exact Nat.le_add_right _ _))
  (fun i V q=>by
    have u:i<(a.data.toList.map fun b=>Value.int .u8 b.toNat).length:=by
     rcases Nat.lt_or_ge i (a.data.toList.map fun b=>Value.int .u8 b.toNat).length with p | p
     ·exact p
     ·rw [List.getElem?_eq_none p]at q;cases q
    show ((a.data.map fun b=>Value.int .u8 b.toNat)++Array.replicate (cap-a.size) (Value.int .u8 0))[i]?=some V
    rw [Array.getElem?_append_left (by simpa using u),<-q,<-Array.getElem?_toList,Array.toList_map])
  (fun o G=>by rw [d]at G;omega)
 refine ⟨τ,.slice (some ⟨w.heap.size,0,none⟩) a.size cap,_,?_,?_,(Stp.drew h).trans D⟩
 ·have r:((w.drew.alloc (.cells arr e)).freeze ⟨w.heap.size,cap,none⟩ 1)=w.drew.alloc (.cells arr e (cap,cap+1)):=by
   have:=PM w.heap (Obj.cells arr e) (fun
    | .cells c l (lo,C)=>.cells c l (if lo==C then (cap,cap+1) else (min lo cap,max C (cap+1)))
    | o=>o)
   exact congrArg (fun h=>({heap:=h,tape:=w.tape,drawn:=w.drawn+1,os:=w.os,output:=w.output}:World)) this
  have f:(w.drew.alloc (.cells arr e)).shape? w.heap.size=some (e,cap):=by
   have this:(w.drew.alloc (.cells arr e)).heap[w.heap.size]?=some (.cells arr e):=pK w.drew (.cells arr e);unfold World.shape?;rw [this];simp [d]
  have m:arr=(a.data.map fun b=>Value.int .u8 b.toNat)++Array.replicate (cap-a.size) (.int .u8 0):=rfl;simp only [Conv.stringToBytes,Sem.run_bind,run_choose,Question.forced,Bool.false_eq_true,if_false,Question.cut,Result.andThen_ok,gO,World.drew_eq];simp only [markStringish,Sem.run_bind,run_shape,World.size_drew,Result.andThen_ok];rw [<-m];simp only [f,run_freeze,Sem.run_pure,Result.andThen_ok];rw [r]
 ·rw [v]
  exact VR.sl id 0 0 b.length (.room 1) w.heap.size 0 arr.size cap E (by omega) (by show 0+0+cap*1<=arr.size;omega)
theorem TQ:∀ (l:List AV) (b:List Nat) (vs:List Value),ofBytes l=some b->VRs σ l vs->∃ ns:List Int,vs=ns.map (Value.int .u8)/\b=ns.map fun n=>n.toNat%256:=by
 intro l
 induction l with
 | nil=>intro b vs h a;simp [ofBytes]at h;subst h;rw [a.nil_inv];exact ⟨[],rfl,rfl⟩
 | cons x l m=>
   intro b vs h a;unfold ofBytes at h;split at h
   ·rename_i d;cases d
   ·rename_i n l' c
    obtain ⟨rfl,rfl⟩:=List.cons.inj c;split at h
    ·rename_i r e
     simp at h;subst h;obtain ⟨X,o,rfl,k,f⟩:=a.head;obtain ⟨ns,rfl,rfl⟩:=m r o e f;cases k;exact ⟨n::ns,rfl,rfl⟩
    ·simp at h
   ·simp at h
theorem TR (ns:List Int) (s:ByteArray):(ns.foldl (fun r n=>r.push (UInt8.ofNat n.toNat)) s).data.toList=s.data.toList++ns.map fun n=>UInt8.ofNat n.toNat:=by
 induction ns generalizing s with
 | nil=>simp
 | cons n ns a=>rw [List.foldl_cons,a];simp [ByteArray.push]
theorem aGe {v dst:TypeId} {x:AV} {X:Value} {r:ORes} (h:Rel σ S w) (f:jF P S v dst x=some r) (u:VR σ x X):
 FB σ S w (fun V w'=>(convert v dst X).run P w=.ok V w') r:=by
 unfold jF at f;split at f
 ·rename_i F k ks n m p
  cases u;rw [eO]at f;simp at f;subst f;exact ⟨_,w,by simp [convert,aC m,aC p,Conv.intToInt],.int _ _,Quiet.refl w⟩
 ·rename_i F b m p
  obtain ⟨I,rfl,A⟩:=cD u;simp at f;subst f;exact ⟨_,w,by simp [convert,aC m,aC p],.str _ _ A,Quiet.refl w⟩
 ·rename_i F e b m p
  obtain ⟨I,rfl,A⟩:=cD u;split at f
  ·rename_i B
   split at f
   ·rename_i id R Q
    simp at f;subst f;obtain ⟨τ,V,w',L,M,N⟩:=FC (P:=P) (e:=e) h Q A;exact ⟨τ,V,w',by simp [convert,aC m,aC p,aC B,L],M,N⟩
   ·simp at f
  ·simp at f
 ·rename_i e m p o
  split at f
  ·rename_i n B d
   split at f
   ·rename_i l O
    split at f
    ·rename_i b A
     simp at f;subst f;obtain ⟨H,G,J,T,_⟩:=pY (P:=P) h O u;obtain ⟨ns,rfl,rfl⟩:=TQ l b H A J;obtain ⟨_,C⟩:=xW (P:=P) (w:=w) d u
     have q:∀ (s:ByteArray),(ns.foldl (fun r n=>r.push (UInt8.ofNat n.toNat)) ByteArray.empty)=s->VR σ (.str (ns.map fun n=>n.toNat%256)) (.string s):=by
      intro s m;refine .str _ _ ?_;rw [<-m,TR];simp
     have E:∃ a c,X=.slice a n c:=by
      unfold oK at d;split at d
      ·cases u;simp at d;subst d;exact ⟨_,_,rfl⟩
      ·cases u;simp at d;subst d;exact ⟨_,_,rfl⟩
      ·cases u;simp at d;subst d;exact ⟨_,_,rfl⟩
      ·exact (o _ rfl).elim
      ·simp at d
     obtain ⟨a,c,rfl⟩:=E
     cases a with
     | none=>
       have y:=G w rfl;simp only [Builtin.firstCells,Sem.run_pure,Result.ok.injEq,and_true]at y
       have D:ns=[]:=by
        have:=congrArg Array.size y;simp at this;exact List.eq_nil_of_length_eq_zero this.symm
       subst D;exact ⟨_,w,by simp [convert,aC m,aC p,aC B,Conv.bytesToString],q _ rfl,Quiet.refl w⟩
     | some a=>
       have y:=G w rfl;simp only [Builtin.firstCells,Nat.mul_one]at y;refine ⟨_,w,?_,q _ rfl,Quiet.refl w⟩;rw [run_convert_bytes_string w v dst e (some a) n c m B p];exact run_bytesToString w a n c ns y
    ·simp at f
   ·simp at f
  ·simp at f
 ·simp at f
end
end Go.Abs
/-
 The abstract machine: maps,new slices,assertions,least and greatest.
-/
namespace Go.Abs
section
variable {P:Program} {σ:Sg} {S:Sto} {w:World}
theorem dG {r:Nat} {o:Obj} (h:w.heap[r]?=some o) (a:∀ c e f,o≠.cells c e f):(getObj r).run P w=.ok o w:=by
 simp only [getObj,Sem.run,h]
theorem iI {r:Nat} {o o':Obj} (h:w.heap[r]?=some o) (a:∀ c e f,o≠.cells c e f):(setObj r o').run P w=.ok () {w with heap:=w.heap.setIfInBounds r o'}:=by
 simp only [setObj,Sem.run,h]
theorem nU {r:Nat} {o o':Obj} (h:w.heap[r]?=some o):Upd w {w with heap:=w.heap.setIfInBounds r o'} r o':=by
 have c:=(Array.getElem?_eq_some_iff.1 h).1;refine ⟨?_,by simp,fun b a=>?_,rfl,rfl,rfl⟩
 ·simp [c]
 ·simp only [Array.getElem?_setIfInBounds]
  rw [if_neg (Ne.symm a)]
inductive EsR (σ:Sg):List (AV × AV × Nat)->List MapEntry->Prop
 | nil:EsR σ [] []
 | cons (k v:AV) (b:Nat) (E:MapEntry) (es:List (AV × AV × Nat)) (ES:List MapEntry):VR σ k E.key->VR σ v E.val->E.born=b->EsR σ es ES->EsR σ ((k,v,b)::es) (E::ES)
theorem EsR.length {b:List (AV × AV × Nat)} {a:List MapEntry} (h:EsR σ b a):b.length=a.length:=by
 induction h with
 | nil=>rfl
 | cons=>simp [*]
theorem EsR.of_obj:∀ (c:List (AV × AV × Nat)) (a:List MapEntry),c.length=a.length->
 (∀ (i:Nat) k v b E,c[i]?=some (k,v,b)->a[i]?=some E->VR σ k E.key/\VR σ v E.val/\E.born=b)->EsR σ c a:=by
 intro c
 induction c with
 | nil=>intro a h _;cases a with
   | nil=>exact .nil
   | cons=>simp at h
 | cons x c p=>
   intro a h d
   cases a with
   | nil=>simp at h
   | cons E a=>
     obtain ⟨k,v,b⟩:=x;obtain ⟨l,m,o⟩:=d 0 k v b E rfl rfl;exact .cons k v b E c a l m o (p a (by simpa using h) fun i k v b E e f=>d (i+1) k v b E (by simpa using e) (by simpa using f))
theorem EsR.obj {e:List (AV × AV × Nat)} {d:List MapEntry} (h:EsR σ e d) (f base sz:Nat):ObjR σ base sz (.map e f) (.map d.toArray f):=by
 refine .map e f d.toArray (by simpa using h.length) ?_;intro i k v b E a c;simp only [List.getElem?_toArray]at c
 induction h generalizing i with
 | nil=>simp at a
 | cons u v' b' q e d l m o r p=>
   cases i with
   | zero=>simp at a c;obtain ⟨rfl,rfl,rfl⟩:=a;subst c;exact ⟨l,m,o⟩
   | succ i=>simp at a c;exact p i a c
theorem EsR.mono {τ:Sg} (h:σ.le τ) {c:List (AV × AV × Nat)} {a:List MapEntry} (l:EsR σ c a):EsR τ c a:=by
 induction l with
 | nil=>exact .nil
 | cons k v b E c a d e f o m=>exact .cons _ _ _ _ _ _ (d.mono h) (e.mono h) f m
theorem Rel.map {id c:Nat} {d:List (AV × AV × Nat)} (h:Rel σ S w) (q:S.get id=some (.map d c)):∃ b base sz a,σ id 0=some (b,base,sz)/\w.heap[b]?=some (.map a c)/\EsR σ d a.toList:=by
 obtain ⟨b,base,sz,o,l,m,p⟩:=h.obj id _ q
 cases p with
 | map _ _ a e f=>exact ⟨b,base,sz,a,l,m,.of_obj _ _ (by simpa using e) fun i k v b E r u=>f i k v b E r (by simpa using u)⟩
theorem PN {d:TypeDesc} {k p:AV} {K c:Value} {r:Bool} (o:kE d k=true) (h:rY k p=some r) (l:VR σ k K) (m:VR σ p c):Instr.sameNow d K c=some r/\(r=true->K=c/\Instr.sameBits 10000 c K=true):=by
 unfold rY at h;split at h
 ·cases l;cases m
  rw [oT]at h;split at h
  ·rename_i y;subst y
   simp at h;subst h;cases d<;>simp [kE]at o;refine ⟨by simp [Instr.sameNow,dJ],fun a=>?_⟩;rw [dJ]at a;have:=eq_of_beq a;subst this;exact ⟨rfl,by simp [Instr.sameBits]⟩
  ·simp at h
 ·obtain ⟨e,rfl,q⟩:=cD l
  obtain ⟨f,rfl,u⟩:=cD m;simp at h;subst h;cases d<;>simp [kE]at o
  have:(fO Nat.beq (e.data.toList.map (·.toNat)) (f.data.toList.map (·.toNat)))=(e==f):=by
   rw [yA,beq_toListBytes,ByteArray.toList_eq,ByteArray.toList_eq]
  rw [<-q,<-u,this];refine ⟨by simp [Instr.sameNow],fun a=>?_⟩;have b:=a;rw [beq_toListBytes,ByteArray.toList_eq,ByteArray.toList_eq]at b
  have v:e=f:=by
   have:=eq_of_beq b;cases e;cases f;simp only [ByteArray.mk.injEq];exact Array.toList_inj.1 this
  subst v;exact ⟨rfl,by simp [Instr.sameBits,a]⟩
 ·cases l;cases m
  simp at h;subst h;cases d<;>simp [kE]at o;refine ⟨by simp [Instr.sameNow],fun a=>?_⟩;have:=eq_of_beq a;subst this;exact ⟨rfl,by simp [Instr.sameBits]⟩
 ·simp at h
theorem pZ {d:TypeDesc} {k:AV} {K:Value} (p:kE d k=true) (o:VR σ k K) {f:List (AV × AV × Nat)} {a:List MapEntry} (D:EsR σ f a):∀ (i:Nat) (r:Option (Nat × AV)),iL k f i=some r->
 (r=none/\Instr.findNow d K a i=some none)∨(∃ j v V E,r=some (j,v)/\Instr.findNow d K a i=some (some (j,V))/\VR σ v V/\i<=j/\a[j-i]?=some E/\Instr.sameBits 10000 E.key K=true):=by
 induction D with
 | nil=>intro i r h;simp [iL]at h;subst h;exact .inl ⟨rfl,rfl⟩
 | cons J v b E f a m C H I F=>
   intro i r h;simp only [iL]at h;split at h
   ·rename_i l
    simp at h;subst h;obtain ⟨c,q⟩:=PN p l o m;exact .inr ⟨i,v,E.val,E,rfl,by simp [Instr.findNow,c],C,Nat.le_refl _,by simp,(q rfl).2⟩
   ·rename_i l
    obtain ⟨c,q⟩:=PN p l o m
    rcases F (i+1) r h with ⟨rfl,e⟩ | ⟨j,v',V,u,rfl,e,y,G,A,B⟩
    ·exact .inl ⟨rfl,by simp [Instr.findNow,c,e]⟩
    ·refine .inr ⟨j,v',V,u,rfl,by simp [Instr.findNow,c,e],y,by omega,?_,B⟩
     rw [show j-i=(j-(i+1))+1 by omega];simpa using A
   ·simp at h
theorem run_checkKey {b:Bool} {n:Nat} {t:TypeId} {d:TypeDesc} {k:AV} {K:Value} (e:P.underlying t=some d) (c:kE d k=true) (a:VR σ k K):(Instr.checkKey b (n+1) t K).run P w=.ok () w:=by
 unfold kE at c;split at c
 ·cases a;simp [Instr.checkKey,aC e]
 ·obtain ⟨f,rfl,_⟩:=cD a;simp [Instr.checkKey,aC e]
 ·cases a;simp [Instr.checkKey,aC e]
 ·simp at c
theorem oS {t:TypeId} {d:TypeDesc} {e:TypeId} (h:gP P t=some (d,e)):∃ k,P.underlying t=some (.map k e)/\P.underlying k=some d:=by
 unfold gP at h;split at h
 ·rename_i k e' b
  split at h
  ·rename_i c a
   simp at h;obtain ⟨rfl,rfl⟩:=h;exact ⟨k,b,a⟩
  ·simp at h
 ·simp at h
theorem gN {t:TypeId} {d:TypeDesc} {K:Value} {a:List MapEntry} {r:Option (Nat × Value)} (b:P.underlying t=some d) (h:Instr.findNow d K a 0=some r):(Instr.findKey t K a).run P w=.ok r w:=by
 simp [Instr.findKey,aC b,h]
theorem kC {b:Bool} {t:TypeId} {d:TypeDesc} {k:AV} {K:Value} (e:P.underlying t=some d) (c:kE d k=true) (a:VR σ k K):(Instr.checkKey b 10000 t K).run P w=.ok () w:=
 run_checkKey (n:=9999) e c a
theorem TS {t:TypeId} {m k v:AV} {M K:Value} {ok:Bool} (h:Rel σ S w) (a:alookup P S t m k ok=some v) (I:VR σ m M) (H:VR σ k K):∃ V,(Instr.lookup t M K ok).run P w=.ok V w/\VR σ v V:=by
 unfold alookup at a;split at a
 ·rename_i d e U
  obtain ⟨Y,J,p⟩:=oS U
  cases f:kE d k with
  | false=>simp only [f,cond_false,reduceCtorEq]at a
  | true=>
    simp only [f,cond_true]at a
    have r:=fun b=>kC (P:=P) (w:=w) (b:=b) p f H
    have o:∀ V v',VR σ v' V->VR σ (bif ok then .tuple [v',.bool true] else v') (if ok then .tuple #[V,.bool true] else V):=by
     intro V v' A;cases ok
     ·exact A
     ·exact VR.tuple_iff.2 ⟨_,rfl,VRs.cons A (VRs.cons (.bool _) (VRs.nil _))⟩
    have l:∀ V v',VR σ v' V->VR σ (bif ok then .tuple [v',.bool false] else v') (if ok then .tuple #[V,.bool false] else V):=by
     intro V v' A;cases ok
     ·exact A
     ·exact VR.tuple_iff.2 ⟨_,rfl,VRs.cons A (VRs.cons (.bool _) (VRs.nil _))⟩
    split at a
    ·rename_i q v' c
     simp at a;subst a;split at c
     ·simp at c
     ·rename_i id
      split at c
      ·rename_i T R G
       obtain ⟨b,base,sz,Q,C,D,F⟩:=h.map G
       cases I with
       | map _ b' base' sz' y=>
         rw [C]at y
         obtain ⟨rfl,rfl,rfl⟩:b=b'/\base=base'/\sz=sz':=by simpa using y
         rcases pZ f H F 0 _ c with ⟨u,_⟩ | ⟨j,v2,V,E,u,B,L,_⟩
         ·cases u
         ·simp at u;obtain ⟨rfl,rfl⟩:=u
          refine ⟨_,?_,o V v' L⟩;simp [Instr.lookup,aC J,dG D (fun _ _ _=>by simp),r,gN p B]
      ·simp at c
     ·simp at c
    ·rename_i c
     split at a
     ·rename_i z X
      obtain ⟨Z,N,O,_⟩:=iJ X;simp at a;subst a;split at c
      ·cases I
       refine ⟨_,?_,l Z z (O σ)⟩;have:Instr.findNow d K [] 0=some none:=rfl;simp [Instr.lookup,aC J,r,gN p this,N]
      ·rename_i id
       split at c
       ·rename_i T R G
        obtain ⟨b,base,sz,Q,C,D,F⟩:=h.map G
        cases I with
        | map _ b' base' sz' y=>
          rw [C]at y
          obtain ⟨rfl,rfl,rfl⟩:b=b'/\base=base'/\sz=sz':=by simpa using y
          rcases pZ f H F 0 _ c with ⟨_,B⟩ | ⟨j,v2,V,E,u,B,L,_⟩
          ·refine ⟨_,?_,l Z z (O σ)⟩
           simp [Instr.lookup,aC J,dG D (fun _ _ _=>by simp),r,gN p B,N]
          ·cases u
       ·simp at c
      ·simp at c
     ·simp at a
    ·simp at a
 ·simp at a
theorem EsR.set {c:List (AV × AV × Nat)} {a:List MapEntry} (h:EsR σ c a) (i:Nat) {k v:AV} {K V:Value} (o:VR σ k K) (p:VR σ v V):EsR σ (UA c i k v) (a.modify i fun e=>{e with key:=K,val:=V}):=by
 induction h generalizing i with
 | nil=>cases i<;>exact .nil
 | cons r v' b E c a f l d m q=>
   cases i with
   | zero=>exact .cons _ _ _ _ _ _ o p d m
   | succ i=>exact .cons _ _ _ _ _ _ f l d (q i)
theorem EsR.del {c:List (AV × AV × Nat)} {a:List MapEntry} (h:EsR σ c a) (i:Nat):EsR σ (aPu c i) (a.eraseIdx i):=by
 induction h generalizing i with
 | nil=>cases i<;>exact .nil
 | cons m v' b E c a d e f k l=>
   cases i with
   | zero=>exact k
   | succ i=>exact .cons _ _ _ _ _ _ d e f (l i)
theorem EsR.append {a b:List (AV × AV × Nat)} {A B:List MapEntry} (h:EsR σ a A) (c:EsR σ b B):EsR σ (a++b) (A++B):=by
 induction h with
 | nil=>exact c
 | cons p v' b E m l d e f o k=>exact .cons _ _ _ _ _ _ d e f k
theorem vL {t:TypeId} {m k v:AV} {M K V:Value} {H:Sto} (h:Rel σ S w) (a:cU P S t m k v=some H) (U:VR σ m M) (y:VR σ k K) (L:VR σ v V):
 ∃ w',(Instr.mapUpdate t M K V).run P w=.ok () w'/\Stp σ S w σ H w':=by
 unfold cU at a;split at a
 ·rename_i d e id T
  obtain ⟨kt,J,p⟩:=oS T
  cases f:kE d k with
  | false=>simp only [f,cond_false,reduceCtorEq]at a
  | true=>
    simp only [f,cond_true]at a;split at a
    ·rename_i Z l F
     obtain ⟨b,base,sz,o,C,r,A⟩:=h.map F
     cases U with
     | map _ b' base' sz' I=>
       rw [C]at I
       obtain ⟨rfl,rfl,rfl⟩:b=b'/\base=base'/\sz=sz':=by simpa using I
       have u:=kC (P:=P) (w:=w) (b:=false) p f y;split at a
       ·rename_i i v' D
        simp at a;subst a
        rcases pZ f y A 0 _ D with ⟨q,_⟩ | ⟨j,v2,N,E,q,B,X,Y,O,Q⟩
        ·cases q
        ·simp at q;obtain ⟨rfl,rfl⟩:=q
         have R:o[i]?=some E:=by simpa using O
         have c:=nU (o':=.map (o.modify i fun e=>{e with key:=K,val:=V}) l) r;refine ⟨_,?_,stp_put h F C rfl c.at_ ?_ c.size c.rest c.os c.out c.tape⟩
         ·simp [Instr.mapUpdate,aC J,dG r (fun _ _ _=>by simp),u,gN p B,R,Instr.keyThatStays,Q,iI r (fun _ _ _=>by simp)]
         ·have:=(A.set i y L).obj l base sz
          have G:(o.toList.modify i fun e=>{e with key:=K,val:=V}).toArray=o.modify i fun e=>{e with key:=K,val:=V}:=by
           apply Array.toList_inj.1;simp
          rw [G]at this;exact this
       ·rename_i D
        simp at a;subst a
        rcases pZ f y A 0 _ D with ⟨_,B⟩ | ⟨j,v2,N,E,q,_⟩
        ·have c:=nU (o':=.map (o.push {key:=K,val:=V,born:=l}) (l+1)) r
         refine ⟨_,?_,stp_put h F C rfl c.at_ ?_ c.size c.rest c.os c.out c.tape⟩
         ·simp [Instr.mapUpdate,aC J,dG r (fun _ _ _=>by simp),u,gN p B,iI r (fun _ _ _=>by simp)]
         ·have:=(A.append (.cons k v l {key:=K,val:=V,born:=l} [] [] y L rfl .nil)).obj (l+1) base sz
          have G:(o.toList++[({key:=K,val:=V,born:=l}:MapEntry)]).toArray=o.push {key:=K,val:=V,born:=l}:=by
           apply Array.toList_inj.1;simp
          rw [G]at this;exact this
        ·cases q
       ·simp at a
    ·simp at a
 ·simp at a
theorem aBd {a:ByteArray} {b:List Nat} (h:a.data.toList.map (·.toNat)=b):nY b=a:=by
 subst h;obtain ⟨d⟩:=a;simp only [nY,List.map_map]
 congr 1
 apply Array.toList_inj.1
 have:(UInt8.ofNat ∘ fun x:UInt8=>x.toNat)=id:=by funext x;simp
 simp [this]
theorem aGf {I:AV} {str:Bool} {X:Value} {ty:TypeId} {r:ORes} (h:Rel σ S w) (d:anext S I str=some r) (Q:VR σ I X):
 (∃ v V,r=.val v/\(Instr.next X str ty).run P w=.ok V w/\VR σ v V)∨(∃ v V D w',r=.val' v D/\(Instr.next X str ty).run P w=.ok V w'/\VR σ v V/\Stp σ S w σ D w'):=by
 unfold anext at d
 cases str with
 | false=>simp at d
 | true=>
   simp only [cond_true]at d;split at d
   ·rename_i id
    split at d
    ·rename_i b a G
     obtain ⟨b',base,sz,o,F,u,N⟩:=h.obj id _ G
     cases N with
     | siter _ _ m B R=>
       subst R
       cases Q with
       | ptr _ _ _ J k C H=>
         have A:σ id 0=some (b',0,sz):=F;rw [A]at H
         obtain ⟨rfl,rfl,rfl⟩:b'=J/\0=k/\sz=C:=by simpa using H
         have f:b.length=m.size:=by
          have E:=congrArg List.length B;rw [List.length_map,Array.length_toList]at E;exact E.symm
         rw [aBd B]at d
         cases y:Nat.blt a b.length with
         | true=>
           rw [y]at d
           rcases e:Utf8.decode m a with ⟨c,wd⟩
           rw [e]at d;simp only [cond_true,Option.some.injEq]at d;subst d
           have l:a<m.size:=by rw [<-f];simpa using y
           have p:=nU (o':=.stringIter m (a+wd)) u;refine .inr ⟨_,.tuple #[.bool true,goInt a,.int .i32 c],_,_,rfl,?_,?_,stp_put h G F rfl p.at_ (.siter _ _ _ B rfl) p.size p.rest p.os p.out p.tape⟩
           ·have L:=dG (P:=P) u (fun _ _ _ q=>by cases q)
            have M:=iI (P:=P) (o':=.stringIter m (a+wd)) u (fun _ _ _ q=>by cases q);simp [Instr.next,L,M,l,e]
           ·exact VR.tuple_iff.2 ⟨_,rfl,VRs.cons (.bool _) (VRs.cons (.int _ _) (VRs.cons (.int _ _) (VRs.nil _)))⟩
         | false=>
           rw [y]at d;simp only [cond_false,Option.some.injEq]at d;subst d
           have l:¬ a<m.size:=by
            rw [<-f];intro O
            have:Nat.blt a b.length=true:=by simpa using O
            rw [y]at this;cases this
           refine .inl ⟨_,.tuple #[.bool false],rfl,?_,VR.tuple_iff.2 ⟨_,rfl,VRs.cons (.bool _) (VRs.nil _)⟩⟩;simp [Instr.next,dG u (fun _ _ _ q=>by cases q),l]
    ·simp at d
   ·simp at d
theorem TT {t u:TypeId} {m k:AV} {M K:Value} {L:Sto} (h:Rel σ S w) (c:KW P S t m k=some L) (N:VR σ m M) (C:VR σ k K):
 ∃ w',(∀ (v:Array TypeId),v[0]?=some t->(Builtin.delete_ v u #[M,K]).run P w=.ok (.tuple #[]) w')/\Stp σ S w σ L w':=by
 unfold KW at c;split at c
 ·rename_i d e H
  obtain ⟨T,D,o⟩:=oS H
  cases a:kE d k with
  | false=>simp only [a,cond_false,reduceCtorEq]at c
  | true=>
    simp only [a,cond_true,Option.some.injEq]at c;subst c;cases N;refine ⟨w,fun v l=>?_,Stp.refl h⟩;simp [Builtin.delete_,l,aC D,kC (P:=P) (w:=w) o a C]
 ·rename_i d e id H
  obtain ⟨T,D,o⟩:=oS H
  cases a:kE d k with
  | false=>simp only [a,cond_false,reduceCtorEq]at c
  | true=>
    simp only [a,cond_true]at c;split at c
    ·rename_i Z A J
     obtain ⟨b,base,sz,y,G,q,B⟩:=h.map J
     cases N with
     | map _ b' base' sz' O=>
       rw [G]at O
       obtain ⟨rfl,rfl,rfl⟩:b=b'/\base=base'/\sz=sz':=by simpa using O
       have r:=fun b=>kC (P:=P) (w:=w) (b:=b) o a C
       split at c
       ·rename_i i v' I
        simp at c;subst c
        rcases pZ a C B 0 _ I with ⟨p,_⟩ | ⟨j,v2,Q,E,p,F,U,V,X,Y⟩
        ·cases p
        ·simp at p;obtain ⟨rfl,rfl⟩:=p
         have f:=nU (o':=.map (y.eraseIdxIfInBounds i) A) q;refine ⟨_,fun v l=>?_,stp_put h J G rfl f.at_ ?_ f.size f.rest f.os f.out f.tape⟩
         ·simp [Builtin.delete_,l,aC D,dG q (fun _ _ _=>by simp),r,gN o F,iI q (fun _ _ _=>by simp)]
         ·have:=(B.del i).obj A base sz
          have R:(y.toList.eraseIdx i).toArray=y.eraseIdxIfInBounds i:=by
           apply Array.toList_inj.1;simp
          rw [R]at this;exact this
       ·rename_i I
        simp at c;subst c
        rcases pZ a C B 0 _ I with ⟨_,F⟩ | ⟨j,v2,Q,E,p,_⟩
        ·have f:=nU (o':=.map y A) q
         refine ⟨_,fun v l=>?_,stp_put h J G rfl f.at_ ?_ f.size f.rest f.os f.out f.tape⟩
         ·simp [Builtin.delete_,l,aC D,dG q (fun _ _ _=>by simp),r,gN o F,iI q (fun _ _ _=>by simp)]
         ·have:=B.obj A base sz
          simpa using this
        ·cases p
       ·simp at c
    ·simp at c
 ·simp at c
end
end Go.Abs
