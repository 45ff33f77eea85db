/-
  The abstract machine: what is copied, appended, converted.
-/
import Derived.Test.YtdipddlhenoglaaGreatUd
set_option linter.unusedVariables false
set_option linter.unusedSimpArgs false
namespace Go.Abs
section
variable {P:Program} {σ:Sg} {S:Sto} {w:World}
theorem WA:∀ (fs:List Field) (ps:List (Nat × Nat)) (acc:Array (Nat × Nat)) (w:World),rU P fs=some ps->
 (fs.foldlM (fun bs a=>bs.push <$> do let n <-sizeOf a.type;pure (a.offset,n)) acc:Sem (Array (Nat × Nat))).run P w=.ok (acc++ps.toArray) w:=by
 intro fs
 induction fs with
 | nil=>intro ps acc w h;simp [rU]at h;subst h;simp
 | cons f fs ih=>
   intro ps acc w h;simp only [rU]at h;split at h
   ·simp at h
   ·rename_i n hn
    split at h
    ·simp at h
    ·rename_i r hr
     simp at h;subst h;simp only [List.foldlM_cons,Sem.run_bind,Sem.run_map,aX hn,Result.andThen_ok,Sem.run_pure];rw [ih r _ w hr];simp
theorem aDk {t:TypeId} {parts:List (Nat × AV)} {PARTS:Array (Nat × Value)} {v:AV} (h:pI P t parts=some v) (hl:parts.length=PARTS.size)
 (hp:∀ (i:Nat) n x N X,parts[i]?=some (n,x)->PARTS[i]?=some (N,X)->n=N/\VR σ x X):∃ V,(∀ w,(Instr.build t PARTS).run P w=.ok V w)/\VR σ v V:=by
 unfold pI at h;split at h
 ·rename_i z fields hz hu
  obtain ⟨Z,z1,z2,z3,z4,_⟩:=iH hz;split at h
  ·rename_i ps hps
   split at h
   ·rename_i cs hf
    simp at h;subst h
    have hpl:PARTS.toList.length=parts.length:=by simp [hl]
    obtain ⟨Cs',e1,e2,_,_⟩:=NL (σ:=σ) _ parts PARTS.toList z.cells cs Z.cells hf (z3 σ) hpl.symm (fun i n x N X h1 h2=>hp i n x N X h1 (by simpa using h2)) z4;refine ⟨.agg Cs',fun w=>?_,VR.agg_iff.2 ⟨_,rfl,e2⟩⟩;simp only [Instr.build,Sem.run_bind,z1,Result.andThen_ok,aB hu]
    have hm:(fields.mapM (fun f=>(do let n <-sizeOf f.type;pure (f.offset,n):Sem (Nat × Nat)))).run P w=.ok ps.toArray w:=by
     rw [Array.mapM_eq_foldlM,<-Array.foldlM_toList,WA _ _ _ w hps];simp
    rw [hm];simp only [Result.andThen_ok]
    have:Instr.fill (fun (x:Nat)=>ps.toArray[x]?) Z.cells PARTS.toList=some Cs':=by
     have:(fun (x:Nat)=>ps.toArray[x]?)=fun (x:Nat)=>ps[x]?:=by funext i;simp
     rw [this];exact e1
    rw [this];rfl
   ·simp at h
  ·simp at h
 ·rename_i z n elem hz hu
  obtain ⟨Z,z1,z2,z3,z4,_⟩:=iH hz;split at h
  ·rename_i k hk
   split at h
   ·rename_i cs hf
    simp at h;subst h
    have hpl:PARTS.toList.length=parts.length:=by simp [hl]
    obtain ⟨Cs',e1,e2,_,_⟩:=NL (σ:=σ) _ parts PARTS.toList z.cells cs Z.cells hf (z3 σ) hpl.symm (fun i n x N X h1 h2=>hp i n x N X h1 (by simpa using h2)) z4;refine ⟨.agg Cs',fun w=>?_,VR.agg_iff.2 ⟨_,rfl,e2⟩⟩;simp only [Instr.build,Sem.run_bind,z1,Result.andThen_ok,aB hu,aX hk];rw [e1];rfl
   ·simp at h
  ·simp at h
 ·simp at h
theorem yW {y:AV} {Y:Value} {n:Nat} (h:zD y=some n) (b:VR σ y Y):(Builtin.lenOf Y).run P w=.ok n w/\(∀ a l c,Y=.slice a l c->l=n):=by
 unfold zD at h;split at h
 ·cases b;simp at h;subst h;exact ⟨rfl,fun a l c e=>by cases e;rfl⟩
 ·cases b;simp at h;subst h;exact ⟨rfl,fun a l c e=>by cases e;rfl⟩
 ·cases b;simp at h;subst h;exact ⟨rfl,fun a l c e=>by cases e;rfl⟩
 ·obtain ⟨f,rfl,d⟩:=cD b
  simp at h;subst h;rw [<-qJ d];exact ⟨rfl,fun a l c e=>by cases e⟩
 ·simp at h
theorem aOm {b k:Nat} (A:∀ off V,σ.m b off=some V->w.cell? ⟨b,off,none⟩=some V):∀ (xs:List AV) (o:Nat),(∀ x∈xs,x.cells.length=k)->
 (∀ i j x c V,xs[i]?=some x->x.cells[j]?=some c->σ.m b (o+i*k+j)=some V->VR σ c V)->(∀ i j,i<xs.length->j<k->(σ.m b (o+i*k+j)).isSome=true)->
 ∃ vs:List Value,VRs σ (xs.flatMap AV.cells) vs/\vs.length=xs.length*k/\∀ (q:Nat) v,vs[q]?=some v->w.cell? ⟨b,o+q,none⟩=some v:=by
 intro xs
 induction xs with
 | nil=>intro o _ _ _;exact ⟨[],VRs.nil σ,by simp,by simp⟩
 | cons x xs M=>
   intro o C D E
   obtain ⟨vs,F,G,H⟩:=M (o+k) (fun y B=>C y (by simp [B]))
    (fun i j y c V B u h=>D (i+1) j y c V (by simpa using B) u (by rw [<-h];congr 1;rw [Nat.add_mul];omega))
    (fun i j N e=>by
      have:=E (i+1) j (by simp;omega) e
      rw [<-this];congr 2;rw [Nat.add_mul];omega)
   have I:x.cells.length=k:=C x (by simp)
   have f:∀ j,j<k->(σ.m b (o+j)).isSome=true:=fun j e=>by
    have:=E 0 j (by simp) e
    simpa using this
   let a:List Value:=(List.range k).map fun j=>(σ.m b (o+j)).getD undef
   have l:∀ (j:Nat) v,a[j]?=some v->j<k/\σ.m b (o+j)=some v:=by
    intro j v d
    have e:j<k:=by
     rcases Nat.lt_or_ge j k with r | r
     ·exact r
     ·rw [List.getElem?_eq_none (by simpa [a] using r)]at d;cases d
    obtain ⟨V,h⟩:=Option.isSome_iff_exists.1 (f j e);simp [a,e,h]at d;exact ⟨e,by rw [h,d]⟩
   refine ⟨a++vs,?_,by simp [a,G,Nat.add_mul];omega,fun q v d=>?_⟩
   ·rw [List.flatMap_cons]
    refine VRs.append ⟨by simp [a,I],fun j c V u h=>?_⟩ F;obtain ⟨e,J⟩:=l j V h;exact D 0 j x c V rfl u (by simpa using J)
   ·by_cases L:q<k
    ·rw [List.getElem?_append_left (by simpa [a] using L)]at d
     exact A _ _ (l q v d).2
    ·rw [List.getElem?_append_right (by simp [a];omega)]at d
     have:=H (q-a.length) v d;rw [<-this];congr 2;simp [a];omega
theorem qH {k n:Nat} {y:AV} {Y:Value} {l:List AV} (h:Rel σ S w) (d:gB S k n y=some l) (L:VR σ y Y):
 ∃ Ls:List Value,(∀ w',w'.heap=w.heap->(Builtin.firstCells k n Y).run P w'=.ok Ls.toArray w')/\VRs σ l Ls/\l.length=n*k/\(∀ (c:List AV),y=.fz c true->c.length=n->l.all AV.isCell=true):=by
 unfold gB at d;split at d
 ·rename_i id g off len cap
  rw [lF]at d;split at d
  ·rename_i G
   split at d
   ·rename_i g' m c u
    cases e:(Nat.beq g g'&&Nat.ble (off+n*k) m) with
    | false=>simp [e]at d
    | true=>
      simp only [e,cond_true]at d;simp only [Bool.and_eq_true,Nat.beq_eq,Nat.ble_eq]at e;obtain ⟨rfl,ac⟩:=e;obtain ⟨f,q⟩:=Tr.row_spec c _ _ _ d;obtain ⟨b,base,arr,el,fr,O,h2,h3,Q,h5⟩:=h.cells u
      cases L with
      | sl _ _ _ _ _ b' base' sz' C hs hC ab=>
        rw [O]at hs
        obtain ⟨rfl,rfl,rfl⟩:b=b'/\base=base'/\arr.size=sz':=by simpa using hs
        let vs:List Value:=(List.range (n*k)).map fun j=>arr.getD (base+off+j) undef
        have A:∀ (j:Nat) v,vs[j]?=some v->j<n*k/\arr[base+off+j]?=some v:=by
         intro j v A
         have r:j<n*k:=by
          rcases Nat.lt_or_ge j (n*k) with N | N
          ·exact N
          ·rw [List.getElem?_eq_none (by simpa [vs] using N)]at A;cases A
         have J:base+off+j<arr.size:=by omega
         simp [vs,r,Array.getD_eq_getD_getElem?,Array.getElem?_eq_getElem J]at A;exact ⟨r,by rw [Array.getElem?_eq_getElem J,A]⟩
        refine ⟨vs,?_,⟨by simp [vs,f],fun j x X H hX=>?_⟩,f,fun c e=>by cases e⟩
        ·intro w' B
         have:=iI (P:=P) (w:=w') b vs (base+off) 0 #[] (fun j v r=>by
          have:=(A j v r).2
          simp [World.cell?,B,h2,this])
         simp only [Builtin.firstCells,loadCells];rw [show n*k=vs.length by simp [vs],this];simp
        ·obtain ⟨r,T⟩:=A j X hX
         rw [<-q j r]at H;obtain ⟨V,D,I⟩:=Q (off+j) x (by omega) H;rw [<-Nat.add_assoc,T]at D;cases D;exact I
   ·simp at d
  ·simp at d
 ·rw [eQ]at d
  split at d
  ·rename_i G;subst G
   simp at d;subst d;cases L;exact ⟨[],fun w' _=>by simp [Builtin.firstCells],VRs.nil σ,by simp,fun c e=>by cases e⟩
  ·simp at d
 ·rename_i xs aa
  rw [lF]at d;split at d
  ·rename_i G
   cases e:((xs.take n).all (fun x=>Nat.beq x.cells.length k)&&((xs.take n).flatMap AV.cells).all AV.isCell) with
   | false=>simp only [e,cond_false,reduceCtorEq]at d
   | true=>
     simp only [e,cond_true,Option.some.injEq]at d;subst d;simp only [Bool.and_eq_true]at e
     cases L with
     | fz _ _ a C b o k' O h2 h3 Q h5 h6=>
       have hk:∀ x∈xs.take n,x.cells.length=k:=fun x u=>by
        have:=List.all_eq_true.1 e.1 x u
        simpa using this
       by_cases Z:n=0
       ·subst Z
        refine ⟨[],?_,by simpa using VRs.nil σ,by simp,fun _ _ _=>e.2⟩;intro w' _;simp [Builtin.firstCells,loadCells,loadCellsFrom]
       ·have f:(xs.take n).length=n:=by simp;omega
        have U:k'=k:=by
         have u:xs[0]'(by omega)∈xs.take n:=by
          have:(xs.take n)[0]'(by omega)∈xs.take n:=List.getElem_mem _
          simpa using this
         rw [<-Q _ (List.mem_of_mem_take u),hk _ u]
        subst U;have ha:=O (by omega);subst ha
        have q:∀ (i:Nat) x,(xs.take n)[i]?=some x->xs[i]?=some x:=by
         intro i x F;rw [List.getElem?_take]at F;split at F
         ·exact F
         ·cases F
        obtain ⟨vs,D,I,e3⟩:=aOm (w:=w) (σ:=σ) (fun off V R=>(h.mu b off V R).1) (xs.take n) o hk
         (fun i j x c V u e R=>h5 i j x c V (q i x u) e R) (fun i j F r=>h6 i j (by omega) r)
        refine ⟨vs,?_,D,by rw [D.1,I,f],fun _ _ _=>e.2⟩;intro w' B
        have:=iI (P:=P) (w:=w') b vs o 0 #[] (fun j v r=>by
         have:=e3 j v r
         rw [<-this];simp [World.cell?,B])
        simp only [Builtin.firstCells,loadCells];rw [show n*k'=vs.length by rw [I,f],this];simp
  ·simp at d
 ·rename_i s
  cases e:(Nat.ble n s.length&&Nat.beq k 1) with
  | false=>simp [e]at d
  | true=>
    simp only [e,cond_true,Option.some.injEq]at d;subst d;simp only [Bool.and_eq_true,Nat.ble_eq,Nat.beq_eq]at e;obtain ⟨G,rfl⟩:=e;obtain ⟨M,rfl,J⟩:=cD L;subst J
    have E:(M.extract 0 n).data.toList=M.data.toList.take n:=by rw [Lib.extract_data];simp
    refine ⟨(M.data.toList.take n).map fun b=>Value.int .u8 b.toNat,?_,?_,?_,fun c e=>by cases e⟩
    ·intro w' _
     simp only [Builtin.firstCells,Sem.run_pure]
     congr 1
     apply Array.toList_inj.1;rw [Array.toList_map,E]
    ·rw [rY,<-List.map_take,List.map_map]
     exact VRs.map _ _ _ fun x _=>.int _ _
    ·simp only [rY,List.length_map,List.length_take]
     simp at G ⊢;omega
 ·simp at d
theorem aDl (need:Nat):∀ (r c:Nat),Builtin.growBy need r c<=max c (need+(need+768)/4):=by
 intro r
 induction r with
 | zero=>intro c;simp [Builtin.growBy];omega
 | succ r a=>
   intro c;simp only [Builtin.growBy];split
   ·omega
   ·rename_i h
    have:=a (c+(c+768)/4);omega
theorem sH {need old:Nat} (h:old<need):Builtin.nextslicecap need old<=2*need+1024:=by
 unfold Builtin.nextslicecap;split
 ·omega
 ·split
  ·omega
  ·have:=aDl need 4 old
   omega
theorem nV (z:Array Value) (n:Nat):(Builtin.zeroCells z n).size=n*z.size:=by simp [Builtin.zeroCells]
theorem append_grow {t e u:TypeId} {d:TypeDesc} {k by_ n a b:Nat} {z:AV} {base:Option Addr} {Y:Value} {OLD NEW:List Value} (hu:P.underlying t=some (.slice e)) (T:qP P e=some k) (l:nY P e=some by_)
 (hz:bF P e=some z) (O:z.cells.length=k) (Q:P.underlying u=some d) (R:∀ k,d≠.int k) (A:(Builtin.lenOf Y).run P w=.ok n w)
 (B:∀ w',w'.heap=w.heap->(Builtin.firstCells k n Y).run P w'=.ok NEW.toArray w') (D:∀ w',w'.heap=w.heap->(Builtin.firstCells k a (.slice base a b)).run P w'=.ok OLD.toArray w') (f:fF (a+n) by_=true) (I:b<a+n)
 (q:OLD.length=a*k) (o:NEW.length=n*k):
 ∃ (C:Nat) (arr:Array Value),(Builtin.append_ #[t,u] t #[.slice base a b,Y]).run P w=.ok (.slice (some ⟨w.heap.size,0,none⟩) (a+n) C) (w.drew.alloc (.cells arr e))/\a+n<=C/\arr.size=C*k/\
   ∀ (i:Nat) V,(OLD++NEW)[i]?=some V->arr[i]?=some V:=by
 obtain ⟨Z,z1,_,z3,_,_⟩:=iH hz;obtain ⟨i,v,J⟩:=rR l w
 have G:Z.cells.size=k:=by
  have:=(z3 Sg.nil).1
  rw [O]at this;simpa using this.symm
 simp only [fF,Bool.and_eq_true,Nat.ble_eq,Nat.blt_eq]at f;obtain ⟨aa,ab⟩:=f
 have m:¬ (a+n<=b):=by omega
 have r:=sH I
 have h:¬ (Builtin.nextslicecap (a+n) b*by_ > 2 ^ 48):=by
  have:Builtin.nextslicecap (a+n) b*by_<=(2*(a+n)+1024)*by_:=Nat.mul_le_mul_right _ r;omega
 let c:=(a+n)+(w.tape w.drawn (.appendCap (a+n) b e))%(2 ^ 63-(a+n))
 refine ⟨c,OLD.toArray++(NEW.toArray++Builtin.zeroCells Z.cells (c-(a+n))),?_,by omega,?_,fun i V F=>?_⟩
 ·have N:∀ w',(typeInfo e).run P w'=.ok i w':=fun w'=>by
   unfold nY at l
   cases y:P.info? e with
   | none=>simp [y]at l
   | some j=>
     rw [cV y]at v ⊢;cases v;rfl
  have X:=D w.drew rfl;have U:=B w.drew rfl
  have H:¬ (281474976710656<Builtin.nextslicecap (a+n) b*by_):=by simpa using h
  have M:¬ ((9223372036854775807:Int)<(a:Int)+(n:Int)/\by_=0):=by omega
  simp [Builtin.append_,aB hu,aX T,aB Q,A,m,M,N,J,H,Question.forced,Question.cut,z1,X,U,gQ,c]
 ·simp [nV,q,o,G,<-Nat.add_mul];congr 1;omega
 ·have L:i<(OLD++NEW).length:=by
   rcases Nat.lt_or_ge i (OLD++NEW).length with E | E
   ·exact E
   ·rw [List.getElem?_eq_none E]at F;cases F
  rw [<-Array.append_assoc,Array.getElem?_append_left (by simpa using L),<-F];simp
def GL (σ:Sg) (S:Sto) (w:World) (a:Value->World->Prop):ORes->Prop
 | .val v=>∃ V w',a V w'/\VR σ v V/\Quiet w w'
 | .val' v b=>∃ τ V w',a V w'/\VR τ v V/\Stp σ S w τ b w'
 | _=>False
theorem vA {k by_ len:Nat} {old new:List AV} {OLD NEW:List Value} {r:ORes} {e t u:TypeId} {X Y:Value} {C:Nat} {arr:Array Value} (h:Rel σ S w) (a:fR S k by_ old new len=some r)
 (f:VRs σ old OLD) (d:VRs σ new NEW) (l:(Builtin.append_ #[t,u] t #[X,Y]).run P w=.ok (.slice (some ⟨w.heap.size,0,none⟩) len C) (w.drew.alloc (.cells arr e)))
 (A:len<=C) (m:arr.size=C*k) (b:OLD.length+NEW.length<=arr.size) (c:∀ (i:Nat) V,(OLD++NEW)[i]?=some V->arr[i]?=some V):
 GL σ S w (fun V w'=>(Builtin.append_ #[t,u] t #[X,Y]).run P w=.ok V w') r:=by
 unfold fR at a
 cases q:fF len by_ with
 | false=>simp [q]at a
 | true=>
   simp only [q,cond_true]at a;split at a
   ·rename_i id D B
    simp at a;subst a;obtain ⟨τ,v,y⟩:=vB (w:=w.drew) e (0,0) (h.world rfl) B (f.append d) (by simpa using b) c (fun o _=>by omega);refine ⟨τ,_,_,l,?_,(Stp.drew h).trans v⟩;have:=VR.sl (σ:=τ) id 0 0 len (.room k) w.heap.size 0 arr.size C y A (by show 0+0+C*k<=arr.size;omega);exact this
   ·simp at a
theorem lV {t e u:TypeId} {d:TypeDesc} {k n b c:Nat} {base:Option Addr} {Y:Value} {NEW:List Value} {w':World} (v:P.underlying t=some (.slice e)) (r:qP P e=some k)
 (q:P.underlying u=some d) (y:∀ k,d≠.int k) (f:(Builtin.lenOf Y).run P w=.ok n w) (h:(Builtin.firstCells k n Y).run P w=.ok NEW.toArray w) (l:b+n<=c)
 (o:∀ a,base=some a->(storeCells (a.add (b*k)) NEW).run P w=.ok () w') (m:base=none->w'=w):
 (Builtin.append_ #[t,u] t #[.slice base b c,Y]).run P w=.ok (.slice base (b+n) c) w':=by
 cases base with
 | none=>
   obtain rfl:=m rfl;simp [Builtin.append_,aB v,aX r,aB q,f,l,h]
 | some a=>
   have:=o a rfl;simp [Builtin.append_,aB v,aX r,aB q,f,l,h,this]
theorem WB {t u:TypeId} {d:TypeDesc} {x y:AV} {X Y:Value} {r:ORes} (h:Rel σ S w) (f:zE P S t x y=some r) (hx:VR σ x X) (hy:VR σ y Y) (hd:P.underlying u=some d) (Q:∀ k,d≠.int k):
 GL σ S w (fun V w'=>(Builtin.append_ #[t,u] t #[X,Y]).run P w=.ok V w') r:=by
 unfold zE at f;split at f
 ·rename_i e hu
  split at f
  ·rename_i k by_ z n hk aw hz ap
   obtain ⟨D,_⟩:=yW (P:=P) (w:=w) ap hy;split at f
   ·simp at f
   ·rename_i new aq
    obtain ⟨NEW,n1,n2,n3,_⟩:=qH (P:=P) h aq hy
    have hN:NEW.length=n*k:=by rw [<-n2.1];exact n3
    cases hc:(Nat.beq z.cells.length k&&new.all AV.isCell) with
    | false=>simp [hc]at f
    | true=>
      simp only [hc,cond_true]at f;simp only [Bool.and_eq_true,Nat.beq_eq]at hc;obtain ⟨bc,Z⟩:=hc
      have G:=fun (base:Option Addr) (L af:Nat) (OLD:List Value) (J:∀ w',w'.heap=w.heap->(Builtin.firstCells k L (.slice base L af)).run P w'=.ok OLD.toArray w') (l:fF (L+n) by_=true) (an:af<L+n) (U:OLD.length=L*k)=>
       append_grow (P:=P) (w:=w) (u:=u) hu hk aw hz bc hd Q D n1 J l an U hN
      split at f
      ·-- nils
       cases hx with
       | nils=>
         rw [eQ]at f;split at f
         ·rename_i ac;subst ac
          simp at f;subst f;refine ⟨_,w,lV hu hk hd Q D (n1 w rfl) (Nat.le_refl _) (fun a e=>by cases e) (fun _=>rfl),.nils,Quiet.refl w⟩
         ·rename_i ac
          have l:fF n by_=true:=by
           unfold fR at f
           cases hr:fF n by_ with
           | true=>rfl
           | false=>simp [hr]at f
          obtain ⟨C,arr,g1,T,g3,g4⟩:=G none 0 0 [] (fun w' _=>by simp [Builtin.firstCells]) (by simpa using l) (by omega) (by simp);rw [Nat.zero_add]at g1 T;exact vA h f (VRs.nil σ) n2 g1 T g3 (by simp [hN,g3];exact Nat.mul_le_mul_right _ T) g4
      ·-- fz
       rename_i xs
       cases hx with
       | fz _ _ a C b o k' h1 h2 h3 h4 h5 h6=>
         have hC:=h3 rfl;subst hC;rw [eQ]at f;split at f
         ·rename_i ac;subst ac
          simp at f;subst f;have ar:NEW=[]:=List.eq_nil_of_length_eq_zero (by omega);refine ⟨_,w,lV hu hk hd Q D (n1 w rfl) (by omega) (fun a e=>by subst ar;simp [storeCells]) (fun _=>rfl),.fz _ _ a _ b o k' h1 h2 (fun _=>rfl) h4 h5 h6,Quiet.refl w⟩
         ·rename_i ac
          split at f
          ·rename_i old J
           have bb:VR σ (.fz xs true) (.slice a xs.length xs.length):=.fz _ _ a _ b o k' h1 h2 (fun _=>rfl) h4 h5 h6;obtain ⟨OLD,o1,o2,o3,_⟩:=qH (P:=P) h J bb
           have U:OLD.length=xs.length*k:=by rw [<-o2.1];exact o3
           have l:fF (xs.length+n) by_=true:=by
            unfold fR at f
            cases hr:fF (xs.length+n) by_ with
            | true=>rfl
            | false=>simp [hr]at f
           obtain ⟨C,arr,g1,T,g3,g4⟩:=G a xs.length xs.length OLD o1 l (by omega) U;exact vA h f o2 n2 g1 T g3 (by rw [g3,U,hN,<-Nat.add_mul];exact Nat.mul_le_mul_right _ T) g4
          ·simp at f
      ·-- sl,the capacity known
       rename_i id g off len c;rw [lF]at f;split at f
       ·rename_i aa
        split at f
        ·rename_i g' m cs E
         cases B:(Nat.beq g g'&&Nat.ble (off+c*k) m) with
         | false=>simp [B]at f
         | true=>
           simp only [B,cond_true,Option.some.injEq]at f;subst f;simp only [Bool.and_eq_true,Nat.beq_eq,Nat.ble_eq]at B;obtain ⟨rfl,hm⟩:=B
           cases hx with
           | sl _ _ _ _ _ b base sz C hs hl F=>
             have ag:C=c:=F;subst ag;have I:(len+n)*k<=C*k:=Nat.mul_le_mul_right _ aa;rw [Nat.add_mul]at I;obtain ⟨w',e1,M⟩:=yZ (P:=P) (cs:=new) (off:=off+len*k) (o:=base+off+len*k) h E ⟨_,hs⟩ (by rw [n3];omega) n2 Z (by omega);refine ⟨σ,_,w',lV hu hk hd Q D (n1 w rfl) aa (fun a e=>by cases e;rw [dI];exact e1) (fun e=>by cases e),.sl _ _ _ _ _ b base sz C hs aa rfl,M⟩
        ·simp at f
       ·rename_i an
        split at f
        ·rename_i old J
         obtain ⟨OLD,o1,o2,o3,_⟩:=qH (P:=P) h J hx
         have U:OLD.length=len*k:=by rw [<-o2.1];exact o3
         cases hx with
         | sl _ _ _ _ _ b base sz C hs hl F=>
           have ag:C=c:=F;subst ag
           have l:fF (len+n) by_=true:=by
            unfold fR at f
            cases hr:fF (len+n) by_ with
            | true=>rfl
            | false=>simp [hr]at f
           obtain ⟨C',arr,g1,T,g3,g4⟩:=G (some ⟨b,base+off,none⟩) len C OLD o1 l (by omega) U;exact vA h f o2 n2 g1 T g3 (by rw [g3,U,hN,<-Nat.add_mul];exact Nat.mul_le_mul_right _ T) g4
        ·simp at f
      ·-- sl,with room
       rename_i id g off len r';split at f
       ·rename_i g' m cs E
        cases B:(Nat.beq g g'&&Nat.beq k r'&&Nat.beq (off+len*k) m&&fF (len+n) by_) with
        | false=>simp [B]at f
        | true=>
          simp only [B,cond_true]at f;simp only [Bool.and_eq_true,Nat.beq_eq]at B;obtain ⟨⟨⟨rfl,rfl⟩,hm⟩,l⟩:=B
          cases hx with
          | sl _ _ _ _ _ b base sz C hs hl F=>
            have N:base+off+C*k<=sz:=F;obtain ⟨b',base',arr,el,fr,a1,a2,a3,a4,a5⟩:=h.cells E;rw [a1]at hs
            obtain ⟨rfl,rfl,rfl⟩:b'=b/\base'=base/\arr.size=sz:=by simpa using hs
            have bd:∀ (R:Tr AV) (O:Nat),((off=0/\R=cs.lay m new/\O=m+n*k)∨(∃ old,cs.row off (len*k)=some old/\R=Tr.leaf.lay 0 (old++new)/\O=(len+n)*k))->
             O=(len+n)*k/\∀ i a,i<O->R.get i=some a->(∃ V,i<len*k/\arr[base'+off+i]?=some V/\VR σ a V)∨(∃ V,len*k<=i/\NEW[i-len*k]?=some V/\VR σ a V):=by
             intro R O aj
             rcases aj with ⟨h0,rfl,rfl⟩ | ⟨old,ad,rfl,rfl⟩
             ·subst h0
              refine ⟨by rw [Nat.add_mul];omega,fun i a hi q=>?_⟩;rw [Tr.get_lay]at q;split at q
              ·rename_i hr
               obtain ⟨V,hV,ah⟩:=n2.get q;exact .inr ⟨V,by omega,by rw [<-hV];congr 1;omega,ah⟩
              ·rename_i hr
               have ay:i<m:=by rw [n3]at hr;omega
               obtain ⟨V,e1,M⟩:=a4 i a ay q;exact .inl ⟨V,by omega,by simpa using e1,M⟩
             ·obtain ⟨au,az⟩:=Tr.row_spec cs _ _ _ ad
              refine ⟨rfl,fun i a hi q=>?_⟩;rw [Tr.get_lay]at q;simp only [Nat.zero_add,Nat.zero_le,true_and,List.length_append,au,n3,Nat.sub_zero]at q;rw [Nat.add_mul]at hi;rw [if_pos hi]at q;by_cases ao:i<len*k
              ·rw [List.getElem?_append_left (by omega),<-az i ao]at q
               obtain ⟨V,e1,M⟩:=a4 (off+i) a (by omega) q;exact .inl ⟨V,ao,by rw [Nat.add_assoc];exact e1,M⟩
              ·rw [List.getElem?_append_right (by omega),au]at q
               obtain ⟨V,hV,ah⟩:=n2.get q;exact .inr ⟨V,by omega,hV,ah⟩
            obtain ⟨R,O,aj,hr⟩:∃ R O,((off=0/\R=cs.lay m new/\O=m+n*k)∨(∃ old,cs.row off (len*k)=some old/\R=Tr.leaf.lay 0 (old++new)/\O=(len+n)*k))/\r=.val' (.sl id (g+1) 0 (len+n) (.room k)) (S.put id (.cells (g+1) O R)):=by
             rw [eQ]at f;split at f
             ·rename_i h0
              simp at f;exact ⟨_,_,.inl ⟨h0,rfl,rfl⟩,f.symm⟩
             ·split at f
              ·rename_i old ad
               simp at f;exact ⟨_,_,.inr ⟨old,ad,rfl,rfl⟩,f.symm⟩
              ·simp at f
            subst hr;obtain ⟨al,ae⟩:=bd R O aj
            have H:σ id (g+1)=none:=by
             cases ai:σ id (g+1) with
             | none=>rfl
             | some v=>have:=h.gen id _ _ v E ai;simp only [dF]at this;omega
            have ab:O<=C*k∨C<len+n:=by
             by_cases ai:len+n<=C
             ·exact .inl (by rw [al];exact Nat.mul_le_mul_right _ ai)
             ·exact .inr (by omega)
            by_cases ak:len+n<=C
            ·have I:(len+n)*k<=C*k:=Nat.mul_le_mul_right _ ak
             rw [Nat.add_mul]at I;obtain ⟨w',A,e1,M,e3,e4⟩:=uD (P:=P) b' el fr NEW (base'+off+len*k) 0 w arr a2 (by rw [hN];omega) (BZ n2 Z) a5;simp only [Nat.add_zero]at e4
             have am:=JS (w':=w') (y:=.cells (g+1) O R) (b':=b') (base':=base'+off) (sz':=arr.size) h E a1 rfl M.at_
              (.cells _ _ _ A el fr e3 (by rw [al,Nat.add_mul];omega) (fun i a hi q=>by
                rcases ae i a hi q with ⟨V,q1,q2,q3⟩ | ⟨V,q1,q2,q3⟩
                ·refine ⟨V,?_,q3.mono (Sg.le_upd _ H)⟩
                 rw [e4,if_neg (by omega)];exact q2
                ·refine ⟨V,?_,q3.mono (Sg.le_upd _ H)⟩
                 rw [e4,if_pos (by rw [hN,al,Nat.add_mul]at *;omega),<-q2];congr 1;omega) a5)
              (.inl rfl) (by rw [M.size];exact Nat.le_refl _) (fun c _ hc=>M.rest c hc) M.os M.out M.tape
             refine ⟨_,_,w',lV hu hk hd Q D (n1 w rfl) ak (fun a e=>by cases e;rw [dI];exact e1) (fun e=>by cases e),?_,am⟩;have:=VR.sl (σ:=σ.upd id (g+1) (b',base'+off,arr.size)) id (g+1) 0 (len+n) (.room k) b' (base'+off) arr.size C (Sg.upd_same _ _ _ _) ak (by show base'+off+0+C*k<=arr.size;omega);exact this
            ·let OLD:List Value:=(List.range (len*k)).map fun j=>arr.getD (base'+off+j) undef
             have av:∀ (j:Nat) v,OLD[j]?=some v->j<len*k/\arr[base'+off+j]?=some v:=by
              intro j v hv
              have hj:j<len*k:=by
               rcases Nat.lt_or_ge j (len*k) with h' | h'
               ·exact h'
               ·rw [List.getElem?_eq_none (by simpa [OLD] using h')]at hv;cases hv
              have hb:base'+off+j<arr.size:=by omega
              simp [OLD,hj,Array.getD_eq_getD_getElem?,Array.getElem?_eq_getElem hb]at hv;exact ⟨hj,by rw [Array.getElem?_eq_getElem hb,hv]⟩
             have U:OLD.length=len*k:=by simp [OLD]
             obtain ⟨C',A,g1,T,g3,g4⟩:=G (some ⟨b',base'+off,none⟩) len C OLD (fun w' ba=>by
              have:=iI (P:=P) (w:=w') b' OLD (base'+off) 0 #[] (fun j v hj=>by
               have:=(av j v hj).2
               simp [World.cell?,ba,a2,this])
              simp only [Builtin.firstCells,loadCells]
              rw [show len*k=OLD.length from U.symm,this];simp) l (by omega) U
             have be:(len+n)*k<=A.size:=by rw [g3];exact Nat.mul_le_mul_right _ T
             have am:=JS (w:=w.drew) (w':=w.drew.alloc (.cells A e)) (y:=.cells (g+1) O R) (b':=w.heap.size) (base':=0) (sz':=A.size) (h.world rfl) E a1 rfl (pH w.drew _)
              (.cells _ _ _ A e (0,0) rfl (by omega) (fun i a hi q=>by
                rw [Nat.zero_add]
                rcases ae i a hi q with ⟨V,q1,q2,q3⟩ | ⟨V,q1,q2,q3⟩
                ·refine ⟨V,g4 i V ?_,q3.mono (Sg.le_upd _ H)⟩
                 rw [List.getElem?_append_left (by omega)]
                 have:OLD[i]?=some (arr.getD (base'+off+i) undef):=by simp [OLD,q1]
                 rw [this,Array.getD_eq_getD_getElem?,q2];rfl
                ·refine ⟨V,g4 i V ?_,q3.mono (Sg.le_upd _ H)⟩
                 rw [List.getElem?_append_right (by omega),U];exact q2) (fun o _=>by omega))
              (.inr (Nat.le_refl _)) (by simp) (fun c hc _=>mU w.drew _ hc) rfl rfl rfl
             refine ⟨_,_,_,g1,?_,(Stp.drew h).trans am⟩;have:=VR.sl (σ:=σ.upd id (g+1) (w.heap.size,0,A.size)) id (g+1) 0 (len+n) (.room k) w.heap.size 0 A.size C' (Sg.upd_same _ _ _ _) T (by show 0+0+C'*k<=A.size;omega);exact this
       ·simp at f
      ·-- sl,with room for at least c
       rename_i id g off len r' c;rw [lF]at f;split at f
       ·rename_i aa
        split at f
        ·rename_i g' m cs E
         cases B:(Nat.beq g g'&&Nat.beq k r'&&Nat.ble (off+c*k) m) with
         | false=>simp [B]at f
         | true=>
           simp only [B,cond_true,Option.some.injEq]at f;subst f;simp only [Bool.and_eq_true,Nat.beq_eq,Nat.ble_eq]at B;obtain ⟨⟨rfl,rfl⟩,hm⟩:=B
           cases hx with
           | sl _ _ _ _ _ b base sz C hs hl F=>
             obtain ⟨ax,N⟩:c<=C/\base+off+C*k<=sz:=F;have I:(len+n)*k<=c*k:=Nat.mul_le_mul_right _ aa;rw [Nat.add_mul]at I
             have ab:len+n<=C:=by omega
             obtain ⟨w',e1,M⟩:=yZ (P:=P) (cs:=new) (off:=off+len*k) (o:=base+off+len*k) h E ⟨_,hs⟩ (by rw [n3];omega) n2 Z (by omega);refine ⟨σ,_,w',lV hu hk hd Q D (n1 w rfl) ab (fun a e=>by cases e;rw [dI];exact e1) (fun e=>by cases e),.sl _ _ _ _ _ b base sz C hs ab (rT N ax),M⟩
        ·simp at f
       ·simp at f
      ·simp at f
  ·simp at f
 ·simp at f
end
end Go.Abs
/-
 The abstract machine: copies,conversions,maps,assertions.
-/
namespace Go.Abs
section
variable {P:Program} {σ:Sg} {S:Sto} {w:World}
theorem aKb {t u:TypeId} {x y:AV} {X Y:Value} {r:ORes} (h:Rel σ S w) (a:aKf P S t x y=some r) (I:VR σ x X) (O:VR σ y Y):
 GL σ S w (fun V w'=>∀ (ts:Array TypeId),ts[0]?=some t->(Builtin.copy_ ts u #[X,Y]).run P w=.ok V w') r:=by
 unfold aKf at a;split at a
 ·rename_i e N
  split at a
  ·rename_i k F J M G H
   obtain ⟨_,v⟩:=yW (P:=P) (w:=w) G I;obtain ⟨c,_⟩:=yW (P:=P) (w:=w) H O;split at a
   ·simp at a
   ·rename_i new D
    obtain ⟨NEW,n1,n2,n3,_⟩:=qH (P:=P) h D O;have l:=n1 w rfl;split at a
    ·cases I
     simp at a;subst a;have d:(0:Nat)=F:=v none 0 0 rfl;subst d
     have B:Nat.min J 0=0:=by simp
     rw [B]at l;refine ⟨.int .i64 0,w,fun ts f=>?_,.int _ _,Quiet.refl w⟩;simp [Builtin.copy_,f,aB N,c,aX M,l,goInt]
    ·rename_i id g off len cap
     split at a
     ·rename_i T m cs A
      cases E:(Nat.beq g T&&Nat.ble (off+Nat.min J F*k) m&&new.all AV.isCell) with
      | false=>simp only [E,cond_false,reduceCtorEq]at a
      | true=>
        simp only [E,cond_true,Option.some.injEq]at a;subst a;simp only [Bool.and_eq_true,Nat.beq_eq,Nat.ble_eq]at E;obtain ⟨⟨rfl,U⟩,q⟩:=E
        cases I with
        | sl _ _ _ _ _ b base sz C Z hl L=>
          have d:len=F:=v _ _ _ rfl;subst d;obtain ⟨w',Q,R⟩:=yZ (P:=P) (cs:=new) (off:=off) (o:=base+off) h A ⟨_,Z⟩ (by rw [n3];exact U) n2 q rfl;refine ⟨σ,.int .i64 (Nat.min J len:Nat),w',fun ts f=>?_,.int _ _,R⟩;simp [Builtin.copy_,f,aB N,c,aX M,l,goInt,Q]
     ·simp at a
    ·simp at a
  ·simp at a
 ·simp at a
theorem RP {α:Type} (xs:Array α) (a:α) (f:α->α):(xs.push a).modify xs.size f=xs.push (f a):=by
 apply Array.ext
 ·simp
 ·intro i d b
  rw [Array.getElem_modify];by_cases c:xs.size=i
  ·subst c;simp
  ·rw [if_neg c,Array.getElem_push_lt (by simp at b;omega),Array.getElem_push_lt (by simp at b;omega)]
theorem GM {e:TypeId} {b:List Nat} {a:ByteArray} {id:Nat} {B:Sto} (h:Rel σ S w) (G:oF S (rY b)=some (id,B)) (C:a.data.toList.map (·.toNat)=b):
 ∃ τ V w',(Conv.stringToBytes e a).run P w=.ok V w'/\VR τ (.sl id 0 0 b.length (.room 1)) V/\Stp σ S w τ B w':=by
 have y:=qJ C
 let cap:=a.size+(w.tape w.drawn (.appendCap a.size 0 e))%(2 ^ 63-a.size)
 let arr:Array Value:=(a.data.map fun b=>Value.int .u8 b.toNat)++Array.replicate (cap-a.size) (.int .u8 0)
 have d:arr.size=cap:=by
  have:(a.data.map fun b=>Value.int .u8 b.toNat).size=a.size:=by simp
  show ((a.data.map fun b=>Value.int .u8 b.toNat)++Array.replicate (cap-a.size) (Value.int .u8 0)).size=cap;rw [Array.size_append,this,Array.size_replicate];omega
 have A:VRs σ (rY b) (a.data.toList.map fun b=>Value.int .u8 b.toNat):=by
  rw [<-C,rY,List.map_map]
  exact VRs.map _ _ _ fun x _=>.int _ _
 have k:(a.data.toList.map fun b=>Value.int .u8 b.toNat).length=a.size:=by rw [List.length_map,Array.length_toList];rfl
 obtain ⟨τ,E,F⟩:=vB (w:=w.drew) (arr:=arr) e (cap,cap+1) (h.world rfl) G A (Nat.le_trans (Nat.le_of_eq k) (by rw [d];exact Nat.le_add_right _ _))
  (fun i V r=>by
    have v:i<(a.data.toList.map fun b=>Value.int .u8 b.toNat).length:=by
     rcases Nat.lt_or_ge i (a.data.toList.map fun b=>Value.int .u8 b.toNat).length with q | q
     ·exact q
     ·rw [List.getElem?_eq_none q]at r;cases r
    show ((a.data.map fun b=>Value.int .u8 b.toNat)++Array.replicate (cap-a.size) (Value.int .u8 0))[i]?=some V
    rw [Array.getElem?_append_left (by simpa using v),<-r,<-Array.getElem?_toList,Array.toList_map])
  (fun o H=>by rw [d]at H;omega)
 refine ⟨τ,.slice (some ⟨w.heap.size,0,none⟩) a.size cap,_,?_,?_,(Stp.drew h).trans E⟩
 ·have u:((w.drew.alloc (.cells arr e)).freeze ⟨w.heap.size,cap,none⟩ 1)=w.drew.alloc (.cells arr e (cap,cap+1)):=by
   have:=RP w.heap (Obj.cells arr e) (fun
    | .cells c l (lo,D)=>.cells c l (if lo==D then (cap,cap+1) else (min lo cap,max D (cap+1)))
    | o=>o)
   exact congrArg (fun h=>({heap:=h,tape:=w.tape,drawn:=w.drawn+1,os:=w.os,output:=w.output}:World)) this
  have f:(w.drew.alloc (.cells arr e)).shape? w.heap.size=some (e,cap):=by
   have this:(w.drew.alloc (.cells arr e)).heap[w.heap.size]?=some (.cells arr e):=pH w.drew (.cells arr e);unfold World.shape?;rw [this];simp [d]
  have m:arr=(a.data.map fun b=>Value.int .u8 b.toNat)++Array.replicate (cap-a.size) (.int .u8 0):=rfl;simp only [Conv.stringToBytes,Sem.run_bind,run_choose,Question.forced,Bool.false_eq_true,if_false,Question.cut,Result.andThen_ok,gQ,World.drew_eq];simp only [markStringish,Sem.run_bind,run_shape,World.size_drew,Result.andThen_ok];rw [<-m];simp only [f,run_freeze,Sem.run_pure,Result.andThen_ok];rw [u]
 ·rw [y]
  exact VR.sl id 0 0 b.length (.room 1) w.heap.size 0 arr.size cap F (by omega) (by show 0+0+cap*1<=arr.size;omega)
theorem WC:∀ (l:List AV) (b:List Nat) (vs:List Value),ofBytes l=some b->VRs σ l vs->∃ ns:List Int,vs=ns.map (Value.int .u8)/\b=ns.map fun n=>n.toNat%256:=by
 intro l
 induction l with
 | nil=>intro b vs h a;simp [ofBytes]at h;subst h;rw [a.nil_inv];exact ⟨[],rfl,rfl⟩
 | cons x l m=>
   intro b vs h a;unfold ofBytes at h;split at h
   ·rename_i d;cases d
   ·rename_i n q c
    obtain ⟨rfl,rfl⟩:=List.cons.inj c;split at h
    ·rename_i r e
     simp at h;subst h;obtain ⟨X,o,rfl,k,f⟩:=a.head;obtain ⟨ns,rfl,rfl⟩:=m r o e f;cases k;exact ⟨n::ns,rfl,rfl⟩
    ·simp at h
   ·simp at h
theorem WD (ns:List Int) (s:ByteArray):(ns.foldl (fun r n=>r.push (UInt8.ofNat n.toNat)) s).data.toList=s.data.toList++ns.map fun n=>UInt8.ofNat n.toNat:=by
 induction ns generalizing s with
 | nil=>simp
 | cons n ns a=>rw [List.foldl_cons,a];simp [ByteArray.push]
theorem aKc {y dst:TypeId} {x:AV} {X:Value} {r:ORes} (h:Rel σ S w) (f:CA P S y dst x=some r) (v:VR σ x X):
 GL σ S w (fun V w'=>(convert y dst X).run P w=.ok V w') r:=by
 unfold CA at f;split at f
 ·rename_i G k ks n m q
  cases v;rw [jY]at f;simp at f;subst f;exact ⟨_,w,by simp [convert,aB m,aB q,Conv.intToInt],.int _ _,Quiet.refl w⟩
 ·rename_i G b m q
  obtain ⟨J,rfl,B⟩:=cD v;simp at f;subst f;exact ⟨_,w,by simp [convert,aB m,aB q],.str _ _ B,Quiet.refl w⟩
 ·rename_i G e b m q
  obtain ⟨J,rfl,B⟩:=cD v;split at f
  ·rename_i C
   split at f
   ·rename_i id T R
    simp at f;subst f;obtain ⟨τ,V,w',M,N,O⟩:=GM (P:=P) (e:=e) h R B;exact ⟨τ,V,w',by simp [convert,aB m,aB q,aB C,M],N,O⟩
   ·simp at f
  ·simp at f
 ·rename_i e m q o
  split at f
  ·rename_i n C d
   split at f
   ·rename_i l Q
    split at f
    ·rename_i b B
     simp at f;subst f;obtain ⟨I,H,L,U,_⟩:=qH (P:=P) h Q v;obtain ⟨ns,rfl,rfl⟩:=WC l b I B L;obtain ⟨_,D⟩:=yW (P:=P) (w:=w) d v
     have u:∀ (s:ByteArray),(ns.foldl (fun r n=>r.push (UInt8.ofNat n.toNat)) ByteArray.empty)=s->VR σ (.str (ns.map fun n=>n.toNat%256)) (.string s):=by
      intro s m;refine .str _ _ ?_;rw [<-m,WD];simp
     have F:∃ a c,X=.slice a n c:=by
      unfold zD at d;split at d
      ·cases v;simp at d;subst d;exact ⟨_,_,rfl⟩
      ·cases v;simp at d;subst d;exact ⟨_,_,rfl⟩
      ·cases v;simp at d;subst d;exact ⟨_,_,rfl⟩
      ·exact (o _ rfl).elim
      ·simp at d
     obtain ⟨a,c,rfl⟩:=F
     cases a with
     | none=>
       have A:=H w rfl;simp only [Builtin.firstCells,Sem.run_pure,Result.ok.injEq,and_true]at A
       have E:ns=[]:=by
        have:=congrArg Array.size A;simp at this;exact List.eq_nil_of_length_eq_zero this.symm
       subst E;exact ⟨_,w,by simp [convert,aB m,aB q,aB C,Conv.bytesToString],u _ rfl,Quiet.refl w⟩
     | some a=>
       have A:=H w rfl;simp only [Builtin.firstCells,Nat.mul_one]at A;refine ⟨_,w,?_,u _ rfl,Quiet.refl w⟩;rw [run_convert_bytes_string w y dst e (some a) n c m C q];exact run_bytesToString w a n c ns A
    ·simp at f
   ·simp at f
  ·simp at f
 ·simp at f
end
end Go.Abs
/-
 The abstract machine: maps,new slices,assertions,least and greatest.
-/
namespace Go.Abs
section
variable {P:Program} {σ:Sg} {S:Sto} {w:World}
theorem dH {r:Nat} {o:Obj} (h:w.heap[r]?=some o) (a:∀ c e f,o≠.cells c e f):(getObj r).run P w=.ok o w:=by
 simp only [getObj,Sem.run,h]
theorem iG {r:Nat} {o o':Obj} (h:w.heap[r]?=some o) (a:∀ c e f,o≠.cells c e f):(setObj r o').run P w=.ok () {w with heap:=w.heap.setIfInBounds r o'}:=by
 simp only [setObj,Sem.run,h]
theorem nW {r:Nat} {o o':Obj} (h:w.heap[r]?=some o):Upd w {w with heap:=w.heap.setIfInBounds r o'} r o':=by
 have c:=(Array.getElem?_eq_some_iff.1 h).1;refine ⟨?_,by simp,fun b a=>?_,rfl,rfl,rfl⟩
 ·simp [c]
 ·simp only [Array.getElem?_setIfInBounds]
  rw [if_neg (Ne.symm a)]
inductive EsR (σ:Sg):List (AV × AV × Nat)->List MapEntry->Prop
 | nil:EsR σ [] []
 | cons (k v:AV) (b:Nat) (E:MapEntry) (es:List (AV × AV × Nat)) (ES:List MapEntry):VR σ k E.key->VR σ v E.val->E.born=b->EsR σ es ES->EsR σ ((k,v,b)::es) (E::ES)
theorem EsR.length {b:List (AV × AV × Nat)} {a:List MapEntry} (h:EsR σ b a):b.length=a.length:=by
 induction h with
 | nil=>rfl
 | cons=>simp [*]
theorem EsR.of_obj:∀ (c:List (AV × AV × Nat)) (a:List MapEntry),c.length=a.length->
 (∀ (i:Nat) k v b E,c[i]?=some (k,v,b)->a[i]?=some E->VR σ k E.key/\VR σ v E.val/\E.born=b)->EsR σ c a:=by
 intro c
 induction c with
 | nil=>intro a h _;cases a with
   | nil=>exact .nil
   | cons=>simp at h
 | cons x c q=>
   intro a h d
   cases a with
   | nil=>simp at h
   | cons E a=>
     obtain ⟨k,v,b⟩:=x;obtain ⟨l,m,o⟩:=d 0 k v b E rfl rfl;exact .cons k v b E c a l m o (q a (by simpa using h) fun i k v b E e f=>d (i+1) k v b E (by simpa using e) (by simpa using f))
theorem EsR.obj {e:List (AV × AV × Nat)} {d:List MapEntry} (h:EsR σ e d) (f base sz:Nat):ObjR σ base sz (.map e f) (.map d.toArray f):=by
 refine .map e f d.toArray (by simpa using h.length) ?_;intro i k v b E a c;simp only [List.getElem?_toArray]at c
 induction h generalizing i with
 | nil=>simp at a
 | cons y v' b' r e d l m o u q=>
   cases i with
   | zero=>simp at a c;obtain ⟨rfl,rfl,rfl⟩:=a;subst c;exact ⟨l,m,o⟩
   | succ i=>simp at a c;exact q i a c
theorem Rel.map {id c:Nat} {d:List (AV × AV × Nat)} (h:Rel σ S w) (r:S.get id=some (.map d c)):∃ b base sz a,σ id 0=some (b,base,sz)/\w.heap[b]?=some (.map a c)/\EsR σ d a.toList:=by
 obtain ⟨b,base,sz,o,l,m,q⟩:=h.obj id _ r
 cases q with
 | map _ _ a e f=>exact ⟨b,base,sz,a,l,m,.of_obj _ _ (by simpa using e) fun i k v b E u y=>f i k v b E u (by simpa using y)⟩
theorem RQ {d:TypeDesc} {k k':AV} {K K':Value} {r:Bool} (hk:lW d k=true) (h:JT k k'=some r) (h1:VR σ k K) (h2:VR σ k' K'):Instr.sameNow d K K'=some r/\(r=true->K=K'/\Instr.sameBits 10000 K' K=true):=by
 unfold JT at h;split at h
 ·cases h1;cases h2
  rw [oP]at h;split at h
  ·rename_i he;subst he
   simp at h;subst h;cases d<;>simp [lW]at hk;refine ⟨by simp [Instr.sameNow,fD],fun hr=>?_⟩;rw [fD]at hr;have:=eq_of_beq hr;subst this;exact ⟨rfl,by simp [Instr.sameBits]⟩
  ·simp at h
 ·obtain ⟨b1,rfl,e1⟩:=cD h1
  obtain ⟨b2,rfl,e2⟩:=cD h2;simp at h;subst h;cases d<;>simp [lW]at hk
  have:(fP Nat.beq (b1.data.toList.map (·.toNat)) (b2.data.toList.map (·.toNat)))=(b1==b2):=by
   rw [zB,beq_toListBytes,ByteArray.toList_eq,ByteArray.toList_eq]
  rw [<-e1,<-e2,this];refine ⟨by simp [Instr.sameNow],fun hr=>?_⟩;have hr':=hr;rw [beq_toListBytes,ByteArray.toList_eq,ByteArray.toList_eq]at hr'
  have hb:b1=b2:=by
   have:=eq_of_beq hr';cases b1;cases b2;simp only [ByteArray.mk.injEq];exact Array.toList_inj.1 this
  subst hb;exact ⟨rfl,by simp [Instr.sameBits,hr]⟩
 ·cases h1;cases h2
  simp at h;subst h;cases d<;>simp [lW]at hk;refine ⟨by simp [Instr.sameNow],fun hr=>?_⟩;have:=eq_of_beq hr;subst this;exact ⟨rfl,by simp [Instr.sameBits]⟩
 ·simp at h
theorem qI {d:TypeDesc} {k:AV} {K:Value} (q:lW d k=true) (o:VR σ k K) {f:List (AV × AV × Nat)} {a:List MapEntry} (F:EsR σ f a):∀ (i:Nat) (r:Option (Nat × AV)),qL k f i=some r->
 (r=none/\Instr.findNow d K a i=some none)∨(∃ j v V E,r=some (j,v)/\Instr.findNow d K a i=some (some (j,V))/\VR σ v V/\i<=j/\a[j-i]?=some E/\Instr.sameBits 10000 E.key K=true):=by
 induction F with
 | nil=>intro i r h;simp [qL]at h;subst h;exact .inl ⟨rfl,rfl⟩
 | cons L v b E f a m D I J G=>
   intro i r h;simp only [qL]at h;split at h
   ·rename_i l
    simp at h;subst h;obtain ⟨c,u⟩:=RQ q l o m;exact .inr ⟨i,v,E.val,E,rfl,by simp [Instr.findNow,c],D,Nat.le_refl _,by simp,(u rfl).2⟩
   ·rename_i l
    obtain ⟨c,u⟩:=RQ q l o m
    rcases G (i+1) r h with ⟨rfl,e⟩ | ⟨j,v',V,y,rfl,e,A,H,B,C⟩
    ·exact .inl ⟨rfl,by simp [Instr.findNow,c,e]⟩
    ·refine .inr ⟨j,v',V,y,rfl,by simp [Instr.findNow,c,e],A,by omega,?_,C⟩
     rw [show j-i=(j-(i+1))+1 by omega];simpa using B
   ·simp at h
theorem run_checkKey {b:Bool} {n:Nat} {t:TypeId} {d:TypeDesc} {k:AV} {K:Value} (e:P.underlying t=some d) (c:lW d k=true) (a:VR σ k K):(Instr.checkKey b (n+1) t K).run P w=.ok () w:=by
 unfold lW at c;split at c
 ·cases a;simp [Instr.checkKey,aB e]
 ·obtain ⟨f,rfl,_⟩:=cD a;simp [Instr.checkKey,aB e]
 ·cases a;simp [Instr.checkKey,aB e]
 ·simp at c
theorem oO {t:TypeId} {d:TypeDesc} {e:TypeId} (h:jZ P t=some (d,e)):∃ k,P.underlying t=some (.map k e)/\P.underlying k=some d:=by
 unfold jZ at h;split at h
 ·rename_i k e' b
  split at h
  ·rename_i c a
   simp at h;obtain ⟨rfl,rfl⟩:=h;exact ⟨k,b,a⟩
  ·simp at h
 ·simp at h
theorem gP {t:TypeId} {d:TypeDesc} {K:Value} {a:List MapEntry} {r:Option (Nat × Value)} (b:P.underlying t=some d) (h:Instr.findNow d K a 0=some r):(Instr.findKey t K a).run P w=.ok r w:=by
 simp [Instr.findKey,aB b,h]
theorem jX {b:Bool} {t:TypeId} {d:TypeDesc} {k:AV} {K:Value} (e:P.underlying t=some d) (c:lW d k=true) (a:VR σ k K):(Instr.checkKey b 10000 t K).run P w=.ok () w:=
 run_checkKey (n:=9999) e c a
theorem WE {t:TypeId} {m k v:AV} {M K:Value} {u:Bool} (h:Rel σ S w) (a:alookup P S t m k u=some v) (L:VR σ m M) (J:VR σ k K):∃ V,(Instr.lookup t M K u).run P w=.ok V w/\VR σ v V:=by
 unfold alookup at a;split at a
 ·rename_i d e Y
  obtain ⟨kt,N,r⟩:=oO Y
  cases f:lW d k with
  | false=>simp only [f,cond_false,reduceCtorEq]at a
  | true=>
    simp only [f,cond_true]at a
    have y:=fun b=>jX (P:=P) (w:=w) (b:=b) r f J
    have o:∀ V v',VR σ v' V->VR σ (bif u then .tuple [v',.bool true] else v') (if u then .tuple #[V,.bool true] else V):=by
     intro V v' C;cases u
     ·exact C
     ·exact VR.tuple_iff.2 ⟨_,rfl,VRs.cons C (VRs.cons (.bool _) (VRs.nil _))⟩
    have l:∀ V v',VR σ v' V->VR σ (bif u then .tuple [v',.bool false] else v') (if u then .tuple #[V,.bool false] else V):=by
     intro V v' C;cases u
     ·exact C
     ·exact VR.tuple_iff.2 ⟨_,rfl,VRs.cons C (VRs.cons (.bool _) (VRs.nil _))⟩
    split at a
    ·rename_i q v' c
     simp at a;subst a;split at c
     ·simp at c
     ·rename_i id
      split at c
      ·rename_i X U I
       obtain ⟨b,base,sz,T,F,G,H⟩:=h.map I
       cases L with
       | map _ b' base' sz' B=>
         rw [F]at B
         obtain ⟨rfl,rfl,rfl⟩:b=b'/\base=base'/\sz=sz':=by simpa using B
         rcases qI f J H 0 _ c with ⟨A,_⟩ | ⟨j,v2,V,E,A,D,O,_⟩
         ·cases A
         ·simp at A;obtain ⟨rfl,rfl⟩:=A
          refine ⟨_,?_,o V v' O⟩;simp [Instr.lookup,aB N,dH G (fun _ _ _=>by simp),y,gP r D]
      ·simp at c
     ·simp at c
    ·rename_i c
     split at a
     ·rename_i z hz
      obtain ⟨Z,Q,R,_⟩:=iH hz;simp at a;subst a;split at c
      ·cases L
       refine ⟨_,?_,l Z z (R σ)⟩;have:Instr.findNow d K [] 0=some none:=rfl;simp [Instr.lookup,aB N,y,gP r this,Q]
      ·rename_i id
       split at c
       ·rename_i X U I
        obtain ⟨b,base,sz,T,F,G,H⟩:=h.map I
        cases L with
        | map _ b' base' sz' B=>
          rw [F]at B
          obtain ⟨rfl,rfl,rfl⟩:b=b'/\base=base'/\sz=sz':=by simpa using B
          rcases qI f J H 0 _ c with ⟨_,D⟩ | ⟨j,v2,V,E,A,D,O,_⟩
          ·refine ⟨_,?_,l Z z (R σ)⟩
           simp [Instr.lookup,aB N,dH G (fun _ _ _=>by simp),y,gP r D,Q]
          ·cases A
       ·simp at c
      ·simp at c
     ·simp at a
    ·simp at a
 ·simp at a
theorem EsR.set {c:List (AV × AV × Nat)} {a:List MapEntry} (h:EsR σ c a) (i:Nat) {k v:AV} {K V:Value} (o:VR σ k K) (q:VR σ v V):EsR σ (aKg c i k v) (a.modify i fun e=>{e with key:=K,val:=V}):=by
 induction h generalizing i with
 | nil=>cases i<;>exact .nil
 | cons u v' b E c a f l d m r=>
   cases i with
   | zero=>exact .cons _ _ _ _ _ _ o q d m
   | succ i=>exact .cons _ _ _ _ _ _ f l d (r i)
theorem EsR.del {c:List (AV × AV × Nat)} {a:List MapEntry} (h:EsR σ c a) (i:Nat):EsR σ (aRy c i) (a.eraseIdx i):=by
 induction h generalizing i with
 | nil=>cases i<;>exact .nil
 | cons m v' b E c a d e f k l=>
   cases i with
   | zero=>exact k
   | succ i=>exact .cons _ _ _ _ _ _ d e f (l i)
theorem EsR.append {a b:List (AV × AV × Nat)} {A B:List MapEntry} (h:EsR σ a A) (c:EsR σ b B):EsR σ (a++b) (A++B):=by
 induction h with
 | nil=>exact c
 | cons q v' b E m l d e f o k=>exact .cons _ _ _ _ _ _ d e f k
theorem vV {t:TypeId} {m k v:AV} {M K V:Value} {I:Sto} (h:Rel σ S w) (a:fS P S t m k v=some I) (X:VR σ m M) (A:VR σ k K) (N:VR σ v V):
 ∃ w',(Instr.mapUpdate t M K V).run P w=.ok () w'/\Stp σ S w σ I w':=by
 unfold fS at a;split at a
 ·rename_i d e id U
  obtain ⟨kt,L,q⟩:=oO U
  cases f:lW d k with
  | false=>simp only [f,cond_false,reduceCtorEq]at a
  | true=>
    simp only [f,cond_true]at a;split at a
    ·rename_i es l G
     obtain ⟨b,base,sz,o,D,u,B⟩:=h.map G
     cases X with
     | map _ b' base' sz' J=>
       rw [D]at J
       obtain ⟨rfl,rfl,rfl⟩:b=b'/\base=base'/\sz=sz':=by simpa using J
       have y:=jX (P:=P) (w:=w) (b:=false) q f A;split at a
       ·rename_i i v' F
        simp at a;subst a
        rcases qI f A B 0 _ F with ⟨r,_⟩ | ⟨j,v2,O,E,r,C,Y,Z,Q,R⟩
        ·cases r
        ·simp at r;obtain ⟨rfl,rfl⟩:=r
         have T:o[i]?=some E:=by simpa using Q
         have c:=nW (o':=.map (o.modify i fun e=>{e with key:=K,val:=V}) l) u;refine ⟨_,?_,stp_put h G D rfl c.at_ ?_ c.size c.rest c.os c.out c.tape⟩
         ·simp [Instr.mapUpdate,aB L,dH u (fun _ _ _=>by simp),y,gP q C,T,Instr.keyThatStays,R,iG u (fun _ _ _=>by simp)]
         ·have:=(B.set i A N).obj l base sz
          have H:(o.toList.modify i fun e=>{e with key:=K,val:=V}).toArray=o.modify i fun e=>{e with key:=K,val:=V}:=by
           apply Array.toList_inj.1;simp
          rw [H]at this;exact this
       ·rename_i F
        simp at a;subst a
        rcases qI f A B 0 _ F with ⟨_,C⟩ | ⟨j,v2,O,E,r,_⟩
        ·have c:=nW (o':=.map (o.push {key:=K,val:=V,born:=l}) (l+1)) u
         refine ⟨_,?_,stp_put h G D rfl c.at_ ?_ c.size c.rest c.os c.out c.tape⟩
         ·simp [Instr.mapUpdate,aB L,dH u (fun _ _ _=>by simp),y,gP q C,iG u (fun _ _ _=>by simp)]
         ·have:=(B.append (.cons k v l {key:=K,val:=V,born:=l} [] [] A N rfl .nil)).obj (l+1) base sz
          have H:(o.toList++[({key:=K,val:=V,born:=l}:MapEntry)]).toArray=o.push {key:=K,val:=V,born:=l}:=by
           apply Array.toList_inj.1;simp
          rw [H]at this;exact this
        ·cases r
       ·simp at a
    ·simp at a
 ·simp at a
theorem aDm {a:ByteArray} {b:List Nat} (h:a.data.toList.map (·.toNat)=b):oB b=a:=by
 subst h;obtain ⟨d⟩:=a;simp only [oB,List.map_map]
 congr 1
 apply Array.toList_inj.1
 have:(UInt8.ofNat ∘ fun x:UInt8=>x.toNat)=id:=by funext x;simp
 simp [this]
theorem aKd {J:AV} {str:Bool} {X:Value} {ty:TypeId} {r:ORes} (h:Rel σ S w) (d:anext S J str=some r) (R:VR σ J X):
 (∃ v V,r=.val v/\(Instr.next X str ty).run P w=.ok V w/\VR σ v V)∨(∃ v V E w',r=.val' v E/\(Instr.next X str ty).run P w=.ok V w'/\VR σ v V/\Stp σ S w σ E w'):=by
 unfold anext at d
 cases str with
 | false=>simp at d
 | true=>
   simp only [cond_true]at d;split at d
   ·rename_i id
    split at d
    ·rename_i b a H
     obtain ⟨b',base,sz,o,G,y,O⟩:=h.obj id _ H
     cases O with
     | siter _ _ m C T=>
       subst T
       cases R with
       | ptr _ _ _ L k D I=>
         have B:σ id 0=some (b',0,sz):=G;rw [B]at I
         obtain ⟨rfl,rfl,rfl⟩:b'=L/\0=k/\sz=D:=by simpa using I
         have f:b.length=m.size:=by
          have F:=congrArg List.length C;rw [List.length_map,Array.length_toList]at F;exact F.symm
         rw [aDm C]at d
         cases A:Nat.blt a b.length with
         | true=>
           rw [A]at d
           rcases e:Utf8.decode m a with ⟨c,wd⟩
           rw [e]at d;simp only [cond_true,Option.some.injEq]at d;subst d
           have l:a<m.size:=by rw [<-f];simpa using A
           have q:=nW (o':=.stringIter m (a+wd)) y;refine .inr ⟨_,.tuple #[.bool true,goInt a,.int .i32 c],_,_,rfl,?_,?_,stp_put h H G rfl q.at_ (.siter _ _ _ C rfl) q.size q.rest q.os q.out q.tape⟩
           ·have M:=dH (P:=P) y (fun _ _ _ u=>by cases u)
            have N:=iG (P:=P) (o':=.stringIter m (a+wd)) y (fun _ _ _ u=>by cases u);simp [Instr.next,M,N,l,e]
           ·exact VR.tuple_iff.2 ⟨_,rfl,VRs.cons (.bool _) (VRs.cons (.int _ _) (VRs.cons (.int _ _) (VRs.nil _)))⟩
         | false=>
           rw [A]at d;simp only [cond_false,Option.some.injEq]at d;subst d
           have l:¬ a<m.size:=by
            rw [<-f];intro Q
            have:Nat.blt a b.length=true:=by simpa using Q
            rw [A]at this;cases this
           refine .inl ⟨_,.tuple #[.bool false],rfl,?_,VR.tuple_iff.2 ⟨_,rfl,VRs.cons (.bool _) (VRs.nil _)⟩⟩;simp [Instr.next,dH y (fun _ _ _ u=>by cases u),l]
    ·simp at d
   ·simp at d
theorem WF {t u:TypeId} {m k:AV} {M K:Value} {L:Sto} (h:Rel σ S w) (c:NN P S t m k=some L) (N:VR σ m M) (C:VR σ k K):
 ∃ w',(∀ (ts:Array TypeId),ts[0]?=some t->(Builtin.delete_ ts u #[M,K]).run P w=.ok (.tuple #[]) w')/\Stp σ S w σ L w':=by
 unfold NN at c;split at c
 ·rename_i d e H
  obtain ⟨T,D,o⟩:=oO H
  cases a:lW d k with
  | false=>simp only [a,cond_false,reduceCtorEq]at c
  | true=>
    simp only [a,cond_true,Option.some.injEq]at c;subst c;cases N;refine ⟨w,fun ts l=>?_,Stp.refl h⟩;simp [Builtin.delete_,l,aB D,jX (P:=P) (w:=w) o a C]
 ·rename_i d e id H
  obtain ⟨T,D,o⟩:=oO H
  cases a:lW d k with
  | false=>simp only [a,cond_false,reduceCtorEq]at c
  | true=>
    simp only [a,cond_true]at c;split at c
    ·rename_i Z A J
     obtain ⟨b,base,sz,y,G,r,B⟩:=h.map J
     cases N with
     | map _ b' base' sz' O=>
       rw [G]at O
       obtain ⟨rfl,rfl,rfl⟩:b=b'/\base=base'/\sz=sz':=by simpa using O
       have v:=fun b=>jX (P:=P) (w:=w) (b:=b) o a C
       split at c
       ·rename_i i v' I
        simp at c;subst c
        rcases qI a C B 0 _ I with ⟨q,_⟩ | ⟨j,v2,Q,E,q,F,U,V,X,Y⟩
        ·cases q
        ·simp at q;obtain ⟨rfl,rfl⟩:=q
         have f:=nW (o':=.map (y.eraseIdxIfInBounds i) A) r;refine ⟨_,fun ts l=>?_,stp_put h J G rfl f.at_ ?_ f.size f.rest f.os f.out f.tape⟩
         ·simp [Builtin.delete_,l,aB D,dH r (fun _ _ _=>by simp),v,gP o F,iG r (fun _ _ _=>by simp)]
         ·have:=(B.del i).obj A base sz
          have R:(y.toList.eraseIdx i).toArray=y.eraseIdxIfInBounds i:=by
           apply Array.toList_inj.1;simp
          rw [R]at this;exact this
       ·rename_i I
        simp at c;subst c
        rcases qI a C B 0 _ I with ⟨_,F⟩ | ⟨j,v2,Q,E,q,_⟩
        ·have f:=nW (o':=.map y A) r
         refine ⟨_,fun ts l=>?_,stp_put h J G rfl f.at_ ?_ f.size f.rest f.os f.out f.tape⟩
         ·simp [Builtin.delete_,l,aB D,dH r (fun _ _ _=>by simp),v,gP o F,iG r (fun _ _ _=>by simp)]
         ·have:=B.obj A base sz
          simpa using this
        ·cases q
       ·simp at c
    ·simp at c
 ·simp at c
end
end Go.Abs
