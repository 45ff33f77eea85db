/-
  The abstract machine: what is copied, appended, converted.
-/
import Derived.Test.YtdipddlhenoglaaGreatUd
set_option linter.unusedVariables false
set_option linter.unusedSimpArgs false
namespace Go.Abs
section
variable {P:Program} {σ:Sg} {S:Sto} {w:World}
theorem VM:∀ (fs:List Field) (ps:List (Nat × Nat)) (acc:Array (Nat × Nat)) (w:World),rI P fs=some ps->
 (fs.foldlM (fun bs a=>bs.push <$> do let n <-sizeOf a.type;pure (a.offset,n)) acc:Sem (Array (Nat × Nat))).run P w=.ok (acc++ps.toArray) w:=by
 intro fs
 induction fs with
 | nil=>intro ps acc w h;simp [rI]at h;subst h;simp
 | cons f fs ih=>
   intro ps acc w h;simp only [rI]at h;split at h
   ·simp at h
   ·rename_i n hn
    split at h
    ·simp at h
    ·rename_i r hr
     simp at h;subst h;simp only [List.foldlM_cons,Sem.run_bind,Sem.run_map,aW hn,Result.andThen_ok,Sem.run_pure];rw [ih r _ w hr];simp
theorem aDa {t:TypeId} {parts:List (Nat × AV)} {PARTS:Array (Nat × Value)} {v:AV} (h:oS P t parts=some v) (hl:parts.length=PARTS.size)
 (hp:∀ (i:Nat) n x N X,parts[i]?=some (n,x)->PARTS[i]?=some (N,X)->n=N/\VR σ x X):∃ V,(∀ w,(Instr.build t PARTS).run P w=.ok V w)/\VR σ v V:=by
 unfold oS at h;split at h
 ·rename_i z fields hz hu
  obtain ⟨Z,z1,z2,z3,z4,_⟩:=iD hz;split at h
  ·rename_i ps hps
   split at h
   ·rename_i cs hf
    simp at h;subst h
    have hpl:PARTS.toList.length=parts.length:=by simp [hl]
    obtain ⟨Cs',e1,e2,_,_⟩:=MV (σ:=σ) _ parts PARTS.toList z.cells cs Z.cells hf (z3 σ) hpl.symm (fun i n x N X h1 h2=>hp i n x N X h1 (by simpa using h2)) z4;refine ⟨.agg Cs',fun w=>?_,VR.agg_iff.2 ⟨_,rfl,e2⟩⟩;simp only [Instr.build,Sem.run_bind,z1,Result.andThen_ok,aB hu]
    have hm:(fields.mapM (fun f=>(do let n <-sizeOf f.type;pure (f.offset,n):Sem (Nat × Nat)))).run P w=.ok ps.toArray w:=by
     rw [Array.mapM_eq_foldlM,<-Array.foldlM_toList,VM _ _ _ w hps];simp
    rw [hm];simp only [Result.andThen_ok]
    have:Instr.fill (fun (x:Nat)=>ps.toArray[x]?) Z.cells PARTS.toList=some Cs':=by
     have:(fun (x:Nat)=>ps.toArray[x]?)=fun (x:Nat)=>ps[x]?:=by funext i;simp
     rw [this];exact e1
    rw [this];rfl
   ·simp at h
  ·simp at h
 ·rename_i z n elem hz hu
  obtain ⟨Z,z1,z2,z3,z4,_⟩:=iD hz;split at h
  ·rename_i k hk
   split at h
   ·rename_i cs hf
    simp at h;subst h
    have hpl:PARTS.toList.length=parts.length:=by simp [hl]
    obtain ⟨Cs',e1,e2,_,_⟩:=MV (σ:=σ) _ parts PARTS.toList z.cells cs Z.cells hf (z3 σ) hpl.symm (fun i n x N X h1 h2=>hp i n x N X h1 (by simpa using h2)) z4;refine ⟨.agg Cs',fun w=>?_,VR.agg_iff.2 ⟨_,rfl,e2⟩⟩;simp only [Instr.build,Sem.run_bind,z1,Result.andThen_ok,aB hu,aW hk];rw [e1];rfl
   ·simp at h
  ·simp at h
 ·simp at h
theorem yZ {y:AV} {Y:Value} {n:Nat} (h:pZ y=some n) (b:VR σ y Y):(Builtin.lenOf Y).run P w=.ok n w/\(∀ a l c,Y=.slice a l c->l=n):=by
 unfold pZ at h;split at h
 ·cases b;simp at h;subst h;exact ⟨rfl,fun a l c e=>by cases e;rfl⟩
 ·cases b;simp at h;subst h;exact ⟨rfl,fun a l c e=>by cases e;rfl⟩
 ·cases b;simp at h;subst h;exact ⟨rfl,fun a l c e=>by cases e;rfl⟩
 ·obtain ⟨f,rfl,d⟩:=bW b
  simp at h;subst h;rw [<-pX d];exact ⟨rfl,fun a l c e=>by cases e⟩
 ·simp at h
theorem aNy {b k:Nat} (u:∀ off V,σ.m b off=some V->w.cell? ⟨b,off,none⟩=some V):∀ (xs:List AV) (o:Nat),(∀ x∈xs,x.cells.length=k)->
 (∀ i j x c V,xs[i]?=some x->x.cells[j]?=some c->σ.m b (o+i*k+j)=some V->VR σ c V)->(∀ i j,i<xs.length->j<k->(σ.m b (o+i*k+j)).isSome=true)->
 ∃ vs:List Value,VRs σ (xs.flatMap AV.cells) vs/\vs.length=xs.length*k/\∀ (q:Nat) v,vs[q]?=some v->w.cell? ⟨b,o+q,none⟩=some v:=by
 intro xs
 induction xs with
 | nil=>intro o _ _ _;exact ⟨[],VRs.nil σ,by simp,by simp⟩
 | cons x xs L=>
   intro o B C D
   obtain ⟨vs,E,F,G⟩:=L (o+k) (fun y A=>B y (by simp [A]))
    (fun i j y c V A r h=>C (i+1) j y c V (by simpa using A) r (by rw [<-h];congr 1;rw [Nat.add_mul];omega))
    (fun i j M e=>by
      have:=D (i+1) j (by simp;omega) e
      rw [<-this];congr 2;rw [Nat.add_mul];omega)
   have H:x.cells.length=k:=B x (by simp)
   have f:∀ j,j<k->(σ.m b (o+j)).isSome=true:=fun j e=>by
    have:=D 0 j (by simp) e
    simpa using this
   let a:List Value:=(List.range k).map fun j=>(σ.m b (o+j)).getD undef
   have l:∀ (j:Nat) v,a[j]?=some v->j<k/\σ.m b (o+j)=some v:=by
    intro j v d
    have e:j<k:=by
     rcases Nat.lt_or_ge j k with p | p
     ·exact p
     ·rw [List.getElem?_eq_none (by simpa [a] using p)]at d;cases d
    obtain ⟨V,h⟩:=Option.isSome_iff_exists.1 (f j e);simp [a,e,h]at d;exact ⟨e,by rw [h,d]⟩
   refine ⟨a++vs,?_,by simp [a,F,Nat.add_mul];omega,fun q v d=>?_⟩
   ·rw [List.flatMap_cons]
    refine VRs.append ⟨by simp [a,H],fun j c V r h=>?_⟩ E;obtain ⟨e,I⟩:=l j V h;exact C 0 j x c V rfl r (by simpa using I)
   ·by_cases J:q<k
    ·rw [List.getElem?_append_left (by simpa [a] using J)]at d
     exact u _ _ (l q v d).2
    ·rw [List.getElem?_append_right (by simp [a];omega)]at d
     have:=G (q-a.length) v d;rw [<-this];congr 2;simp [a];omega
theorem pV {k n:Nat} {y:AV} {Y:Value} {l:List AV} (h:Rel σ S w) (d:dT S k n y=some l) (J:VR σ y Y):
 ∃ Ls:List Value,(∀ w',w'.heap=w.heap->(Builtin.firstCells k n Y).run P w'=.ok Ls.toArray w')/\VRs σ l Ls/\l.length=n*k/\(∀ (c:List AV),y=.fz c true->c.length=n->l.all AV.isCell=true):=by
 unfold dT at d;split at d
 ·rename_i id g off len cap
  rw [kU]at d;split at d
  ·rename_i F
   split at d
   ·rename_i g' m c r
    cases e:(Nat.beq g g'&&Nat.ble (off+n*k) m) with
    | false=>simp [e]at d
    | true=>
      simp only [e,cond_true]at d;simp only [Bool.and_eq_true,Nat.beq_eq,Nat.ble_eq]at e;obtain ⟨rfl,ab⟩:=e;obtain ⟨f,p⟩:=Tr.row_spec c _ _ _ d;obtain ⟨b,base,arr,el,fr,N,h2,h3,O,h5⟩:=h.cells r
      cases J with
      | sl _ _ _ _ _ b' base' sz' C hs hC aa=>
        rw [N]at hs
        obtain ⟨rfl,rfl,rfl⟩:b=b'/\base=base'/\arr.size=sz':=by simpa using hs
        let vs:List Value:=(List.range (n*k)).map fun j=>arr.getD (base+off+j) undef
        have u:∀ (j:Nat) v,vs[j]?=some v->j<n*k/\arr[base+off+j]?=some v:=by
         intro j v u
         have q:j<n*k:=by
          rcases Nat.lt_or_ge j (n*k) with M | M
          ·exact M
          ·rw [List.getElem?_eq_none (by simpa [vs] using M)]at u;cases u
         have I:base+off+j<arr.size:=by omega
         simp [vs,q,Array.getD_eq_getD_getElem?,Array.getElem?_eq_getElem I]at u;exact ⟨q,by rw [Array.getElem?_eq_getElem I,u]⟩
        refine ⟨vs,?_,⟨by simp [vs,f],fun j x X G hX=>?_⟩,f,fun c e=>by cases e⟩
        ·intro w' A
         have:=iE (P:=P) (w:=w') b vs (base+off) 0 #[] (fun j v q=>by
          have:=(u j v q).2
          simp [World.cell?,A,h2,this])
         simp only [Builtin.firstCells,loadCells];rw [show n*k=vs.length by simp [vs],this];simp
        ·obtain ⟨q,R⟩:=u j X hX
         rw [<-p j q]at G;obtain ⟨V,B,H⟩:=O (off+j) x (by omega) G;rw [<-Nat.add_assoc,R]at B;cases B;exact H
   ·simp at d
  ·simp at d
 ·rw [eO]at d
  split at d
  ·rename_i F;subst F
   simp at d;subst d;cases J;exact ⟨[],fun w' _=>by simp [Builtin.firstCells],VRs.nil σ,by simp,fun c e=>by cases e⟩
  ·simp at d
 ·rename_i xs Z
  rw [kU]at d;split at d
  ·rename_i F
   cases e:((xs.take n).all (fun x=>Nat.beq x.cells.length k)&&((xs.take n).flatMap AV.cells).all AV.isCell) with
   | false=>simp only [e,cond_false,reduceCtorEq]at d
   | true=>
     simp only [e,cond_true,Option.some.injEq]at d;subst d;simp only [Bool.and_eq_true]at e
     cases J with
     | fz _ _ a C b o k' N h2 h3 O h5 h6=>
       have hk:∀ x∈xs.take n,x.cells.length=k:=fun x r=>by
        have:=List.all_eq_true.1 e.1 x r
        simpa using this
       by_cases U:n=0
       ·subst U
        refine ⟨[],?_,by simpa using VRs.nil σ,by simp,fun _ _ _=>e.2⟩;intro w' _;simp [Builtin.firstCells,loadCells,loadCellsFrom]
       ·have f:(xs.take n).length=n:=by simp;omega
        have T:k'=k:=by
         have r:xs[0]'(by omega)∈xs.take n:=by
          have:(xs.take n)[0]'(by omega)∈xs.take n:=List.getElem_mem _
          simpa using this
         rw [<-O _ (List.mem_of_mem_take r),hk _ r]
        subst T;have ha:=N (by omega);subst ha
        have p:∀ (i:Nat) x,(xs.take n)[i]?=some x->xs[i]?=some x:=by
         intro i x E;rw [List.getElem?_take]at E;split at E
         ·exact E
         ·cases E
        obtain ⟨vs,B,H,e3⟩:=aNy (w:=w) (σ:=σ) (fun off V Q=>(h.mu b off V Q).1) (xs.take n) o hk
         (fun i j x c V r e Q=>h5 i j x c V (p i x r) e Q) (fun i j E q=>h6 i j (by omega) q)
        refine ⟨vs,?_,B,by rw [B.1,H,f],fun _ _ _=>e.2⟩;intro w' A
        have:=iE (P:=P) (w:=w') b vs o 0 #[] (fun j v q=>by
         have:=e3 j v q
         rw [<-this];simp [World.cell?,A])
        simp only [Builtin.firstCells,loadCells];rw [show n*k'=vs.length by rw [H,f],this];simp
  ·simp at d
 ·rename_i s
  cases e:(Nat.ble n s.length&&Nat.beq k 1) with
  | false=>simp [e]at d
  | true=>
    simp only [e,cond_true,Option.some.injEq]at d;subst d;simp only [Bool.and_eq_true,Nat.ble_eq,Nat.beq_eq]at e;obtain ⟨F,rfl⟩:=e;obtain ⟨L,rfl,I⟩:=bW J;subst I
    have D:(L.extract 0 n).data.toList=L.data.toList.take n:=by rw [Lib.extract_data];simp
    refine ⟨(L.data.toList.take n).map fun b=>Value.int .u8 b.toNat,?_,?_,?_,fun c e=>by cases e⟩
    ·intro w' _
     simp only [Builtin.firstCells,Sem.run_pure]
     congr 1
     apply Array.toList_inj.1;rw [Array.toList_map,D]
    ·rw [fL,<-List.map_take,List.map_map]
     exact VRs.map _ _ _ fun x _=>.int _ _
    ·simp only [fL,List.length_map,List.length_take]
     simp at F ⊢;omega
 ·simp at d
theorem aDb (need:Nat):∀ (r c:Nat),Builtin.growBy need r c<=max c (need+(need+768)/4):=by
 intro r
 induction r with
 | zero=>intro c;simp [Builtin.growBy];omega
 | succ r a=>
   intro c;simp only [Builtin.growBy];split
   ·omega
   ·rename_i h
    have:=a (c+(c+768)/4);omega
theorem rU {need old:Nat} (h:old<need):Builtin.nextslicecap need old<=2*need+1024:=by
 unfold Builtin.nextslicecap;split
 ·omega
 ·split
  ·omega
  ·have:=aDb need 4 old
   omega
theorem nG (z:Array Value) (n:Nat):(Builtin.zeroCells z n).size=n*z.size:=by simp [Builtin.zeroCells]
theorem append_grow {t e u:TypeId} {d:TypeDesc} {k by_ n a b:Nat} {z:AV} {base:Option Addr} {Y:Value} {OLD NEW:List Value} (hu:P.underlying t=some (.slice e)) (U:rV P e=some k) (l:nJ P e=some by_)
 (hz:bF P e=some z) (O:z.cells.length=k) (R:P.underlying u=some d) (H:∀ k,d≠.int k) (y:(Builtin.lenOf Y).run P w=.ok n w)
 (A:∀ w',w'.heap=w.heap->(Builtin.firstCells k n Y).run P w'=.ok NEW.toArray w') (B:∀ w',w'.heap=w.heap->(Builtin.firstCells k a (.slice base a b)).run P w'=.ok OLD.toArray w') (f:eZ (a+n) by_=true) (I:b<a+n)
 (p:OLD.length=a*k) (o:NEW.length=n*k):
 ∃ (C:Nat) (arr:Array Value),(Builtin.append_ #[t,u] t #[.slice base a b,Y]).run P w=.ok (.slice (some ⟨w.heap.size,0,none⟩) (a+n) C) (w.drew.alloc (.cells arr e))/\a+n<=C/\arr.size=C*k/\
   ∀ (i:Nat) V,(OLD++NEW)[i]?=some V->arr[i]?=some V:=by
 obtain ⟨Z,z1,_,z3,_,_⟩:=iD hz;obtain ⟨i,r,J⟩:=rF l w
 have F:Z.cells.size=k:=by
  have:=(z3 Sg.nil).1
  rw [O]at this;simpa using this.symm
 simp only [eZ,Bool.and_eq_true,Nat.ble_eq,Nat.blt_eq]at f;obtain ⟨aa,ab⟩:=f
 have m:¬ (a+n<=b):=by omega
 have Q:¬ (((a+n:Nat):Int) > IntKind.i64.max):=by simp [IntKind.max,IntKind.signed,IntKind.bits];omega
 have q:=rU I
 have h:¬ (Builtin.nextslicecap (a+n) b*by_ > 2 ^ 48):=by
  have:Builtin.nextslicecap (a+n) b*by_<=(2*(a+n)+1024)*by_:=Nat.mul_le_mul_right _ q;omega
 have T:(match (generalizing:=false) d with | TypeDesc.int _=>true | _=>false)=false:=by cases d<;>first | rfl | exact absurd rfl (H _)
 let c:=(a+n)+(w.tape w.drawn (.appendCap (a+n) b e))%(2 ^ 63-(a+n))
 refine ⟨c,OLD.toArray++(NEW.toArray++Builtin.zeroCells Z.cells (c-(a+n))),?_,by omega,?_,fun i V E=>?_⟩
 ·have N:∀ w',(typeInfo e).run P w'=.ok i w':=fun w'=>by
   unfold nJ at l
   cases v:P.info? e with
   | none=>simp [v]at l
   | some j=>
     rw [cN v]at r ⊢;cases r;rfl
  have ho:=B w.drew rfl;have X:=A w.drew rfl
  have G:¬ (281474976710656<Builtin.nextslicecap (a+n) b*by_):=by simpa using h
  have M:¬ ((9223372036854775807:Int)<(a:Int)+(n:Int)/\by_=0):=by omega
  simp [Builtin.append_,aB hu,aW U,aB R,y,m,M,N,J,G,Question.forced,Question.cut,z1,ho,X,gI,c]
 ·simp [nG,p,o,F,<-Nat.add_mul];congr 1;omega
 ·have L:i<(OLD++NEW).length:=by
   rcases Nat.lt_or_ge i (OLD++NEW).length with D | D
   ·exact D
   ·rw [List.getElem?_eq_none D]at E;cases E
  rw [<-Array.append_assoc,Array.getElem?_append_left (by simpa using L),<-E];simp
def GE (σ:Sg) (S:Sto) (w:World) (run:Value->World->Prop):ORes->Prop
 | .val v=>∃ V w',run V w'/\VR σ v V/\Quiet w w'
 | .val' v a=>∃ τ V w',run V w'/\VR τ v V/\Stp σ S w τ a w'
 | _=>False
theorem vD {k by_ len:Nat} {old new:List AV} {OLD NEW:List Value} {r:ORes} {e t u:TypeId} {X Y:Value} {C:Nat} {arr:Array Value} (h:Rel σ S w) (a:fM S k by_ old new len=some r)
 (f:VRs σ old OLD) (d:VRs σ new NEW) (l:(Builtin.append_ #[t,u] t #[X,Y]).run P w=.ok (.slice (some ⟨w.heap.size,0,none⟩) len C) (w.drew.alloc (.cells arr e)))
 (y:len<=C) (m:arr.size=C*k) (b:OLD.length+NEW.length<=arr.size) (c:∀ (i:Nat) V,(OLD++NEW)[i]?=some V->arr[i]?=some V):
 GE σ S w (fun V w'=>(Builtin.append_ #[t,u] t #[X,Y]).run P w=.ok V w') r:=by
 unfold fM at a
 cases p:eZ len by_ with
 | false=>simp [p]at a
 | true=>
   simp only [p,cond_true]at a;split at a
   ·rename_i id B A
    simp at a;subst a;obtain ⟨τ,q,v⟩:=vE (w:=w.drew) e (0,0) (h.world rfl) A (f.append d) (by simpa using b) c (fun o _=>by omega);refine ⟨τ,_,_,l,?_,(Stp.drew h).trans q⟩;have:=VR.sl (σ:=τ) id 0 0 len (.room k) w.heap.size 0 arr.size C v y (by show 0+0+C*k<=arr.size;omega);exact this
   ·simp at a
theorem lG {t e u:TypeId} {d:TypeDesc} {k n b c:Nat} {base:Option Addr} {Y:Value} {NEW:List Value} {w':World} (v:P.underlying t=some (.slice e)) (r:rV P e=some k)
 (q:P.underlying u=some d) (m:∀ k,d≠.int k) (f:(Builtin.lenOf Y).run P w=.ok n w) (h:(Builtin.firstCells k n Y).run P w=.ok NEW.toArray w) (l:b+n<=c)
 (p:∀ a,base=some a->(storeCells (a.add (b*k)) NEW).run P w=.ok () w') (o:base=none->w'=w):
 (Builtin.append_ #[t,u] t #[.slice base b c,Y]).run P w=.ok (.slice base (b+n) c) w':=by
 have y:(match (generalizing:=false) d with | TypeDesc.int _=>true | _=>false)=false:=by cases d<;>first | rfl | exact absurd rfl (m _)
 cases base with
 | none=>
   obtain rfl:=o rfl;simp [Builtin.append_,aB v,aW r,aB q,f,l,h]
 | some a=>
   have:=p a rfl;simp [Builtin.append_,aB v,aW r,aB q,f,l,h,this]
theorem VN {t u:TypeId} {d:TypeDesc} {x y:AV} {X Y:Value} {r:ORes} (h:Rel σ S w) (f:zF P S t x y=some r) (hx:VR σ x X) (hy:VR σ y Y) (hd:P.underlying u=some d) (O:∀ k,d≠.int k):
 GE σ S w (fun V w'=>(Builtin.append_ #[t,u] t #[X,Y]).run P w=.ok V w') r:=by
 unfold zF at f;split at f
 ·rename_i e hu
  split at f
  ·rename_i k by_ z n hk av hz ao
   obtain ⟨B,_⟩:=yZ (P:=P) (w:=w) ao hy;split at f
   ·simp at f
   ·rename_i new ap
    obtain ⟨NEW,n1,n2,n3,_⟩:=pV (P:=P) h ap hy
    have hN:NEW.length=n*k:=by rw [<-n2.1];exact n3
    cases hc:(Nat.beq z.cells.length k&&new.all AV.isCell) with
    | false=>simp [hc]at f
    | true=>
      simp only [hc,cond_true]at f;simp only [Bool.and_eq_true,Nat.beq_eq]at hc;obtain ⟨bb,U⟩:=hc
      have F:=fun (base:Option Addr) (J ae:Nat) (OLD:List Value) (I:∀ w',w'.heap=w.heap->(Builtin.firstCells k J (.slice base J ae)).run P w'=.ok OLD.toArray w') (l:eZ (J+n) by_=true) (am:ae<J+n) (T:OLD.length=J*k)=>
       append_grow (P:=P) (w:=w) (u:=u) hu hk av hz bb hd O B n1 I l am T hN
      split at f
      ·-- nils
       cases hx with
       | nils=>
         rw [eO]at f;split at f
         ·rename_i ab;subst ab
          simp at f;subst f;refine ⟨_,w,lG hu hk hd O B (n1 w rfl) (Nat.le_refl _) (fun a e=>by cases e) (fun _=>rfl),.nils,Quiet.refl w⟩
         ·rename_i ab
          have l:eZ n by_=true:=by
           unfold fM at f
           cases hr:eZ n by_ with
           | true=>rfl
           | false=>simp [hr]at f
          obtain ⟨C,arr,g1,R,g3,g4⟩:=F none 0 0 [] (fun w' _=>by simp [Builtin.firstCells]) (by simpa using l) (by omega) (by simp);rw [Nat.zero_add]at g1 R;exact vD h f (VRs.nil σ) n2 g1 R g3 (by simp [hN,g3];exact Nat.mul_le_mul_right _ R) g4
      ·-- fz
       rename_i xs
       cases hx with
       | fz _ _ a C b o k' h1 h2 h3 h4 h5 h6=>
         have hC:=h3 rfl;subst hC;rw [eO]at f;split at f
         ·rename_i ab;subst ab
          simp at f;subst f;have aq:NEW=[]:=List.eq_nil_of_length_eq_zero (by omega);refine ⟨_,w,lG hu hk hd O B (n1 w rfl) (by omega) (fun a e=>by subst aq;simp [storeCells]) (fun _=>rfl),.fz _ _ a _ b o k' h1 h2 (fun _=>rfl) h4 h5 h6,Quiet.refl w⟩
         ·rename_i ab
          split at f
          ·rename_i old I
           have ba:VR σ (.fz xs true) (.slice a xs.length xs.length):=.fz _ _ a _ b o k' h1 h2 (fun _=>rfl) h4 h5 h6;obtain ⟨OLD,o1,o2,o3,_⟩:=pV (P:=P) h I ba
           have T:OLD.length=xs.length*k:=by rw [<-o2.1];exact o3
           have l:eZ (xs.length+n) by_=true:=by
            unfold fM at f
            cases hr:eZ (xs.length+n) by_ with
            | true=>rfl
            | false=>simp [hr]at f
           obtain ⟨C,arr,g1,R,g3,g4⟩:=F a xs.length xs.length OLD o1 l (by omega) T;exact vD h f o2 n2 g1 R g3 (by rw [g3,T,hN,<-Nat.add_mul];exact Nat.mul_le_mul_right _ R) g4
          ·simp at f
      ·-- sl,the capacity known
       rename_i id g off len c;rw [kU]at f;split at f
       ·rename_i Z
        split at f
        ·rename_i g' m cs D
         cases A:(Nat.beq g g'&&Nat.ble (off+c*k) m) with
         | false=>simp [A]at f
         | true=>
           simp only [A,cond_true,Option.some.injEq]at f;subst f;simp only [Bool.and_eq_true,Nat.beq_eq,Nat.ble_eq]at A;obtain ⟨rfl,hm⟩:=A
           cases hx with
           | sl _ _ _ _ _ b base sz C hs hl E=>
             have af:C=c:=E;subst af;have H:(len+n)*k<=C*k:=Nat.mul_le_mul_right _ Z;rw [Nat.add_mul]at H;obtain ⟨w',e1,L⟩:=zC (P:=P) (cs:=new) (off:=off+len*k) (o:=base+off+len*k) h D ⟨_,hs⟩ (by rw [n3];omega) n2 U (by omega);refine ⟨σ,_,w',lG hu hk hd O B (n1 w rfl) Z (fun a e=>by cases e;rw [dB];exact e1) (fun e=>by cases e),.sl _ _ _ _ _ b base sz C hs Z rfl,L⟩
        ·simp at f
       ·rename_i am
        split at f
        ·rename_i old I
         obtain ⟨OLD,o1,o2,o3,_⟩:=pV (P:=P) h I hx
         have T:OLD.length=len*k:=by rw [<-o2.1];exact o3
         cases hx with
         | sl _ _ _ _ _ b base sz C hs hl E=>
           have af:C=c:=E;subst af
           have l:eZ (len+n) by_=true:=by
            unfold fM at f
            cases hr:eZ (len+n) by_ with
            | true=>rfl
            | false=>simp [hr]at f
           obtain ⟨C',arr,g1,R,g3,g4⟩:=F (some ⟨b,base+off,none⟩) len C OLD o1 l (by omega) T;exact vD h f o2 n2 g1 R g3 (by rw [g3,T,hN,<-Nat.add_mul];exact Nat.mul_le_mul_right _ R) g4
        ·simp at f
      ·-- sl,with room
       rename_i id g off len r';split at f
       ·rename_i g' m cs D
        cases A:(Nat.beq g g'&&Nat.beq k r'&&Nat.beq (off+len*k) m&&eZ (len+n) by_) with
        | false=>simp [A]at f
        | true=>
          simp only [A,cond_true]at f;simp only [Bool.and_eq_true,Nat.beq_eq]at A;obtain ⟨⟨⟨rfl,rfl⟩,hm⟩,l⟩:=A
          cases hx with
          | sl _ _ _ _ _ b base sz C hs hl E=>
            have M:base+off+C*k<=sz:=E;obtain ⟨b',base',arr,el,fr,a1,a2,a3,a4,a5⟩:=h.cells D;rw [a1]at hs
            obtain ⟨rfl,rfl,rfl⟩:b'=b/\base'=base/\arr.size=sz:=by simpa using hs
            have bc:∀ (Q:Tr AV) (N:Nat),((off=0/\Q=cs.lay m new/\N=m+n*k)∨(∃ old,cs.row off (len*k)=some old/\Q=Tr.leaf.lay 0 (old++new)/\N=(len+n)*k))->
             N=(len+n)*k/\∀ i a,i<N->Q.get i=some a->(∃ V,i<len*k/\arr[base'+off+i]?=some V/\VR σ a V)∨(∃ V,len*k<=i/\NEW[i-len*k]?=some V/\VR σ a V):=by
             intro Q N ai
             rcases ai with ⟨h0,rfl,rfl⟩ | ⟨old,ac,rfl,rfl⟩
             ·subst h0
              refine ⟨by rw [Nat.add_mul];omega,fun i a hi p=>?_⟩;rw [Tr.get_lay]at p;split at p
              ·rename_i hr
               obtain ⟨V,hV,ag⟩:=n2.get p;exact .inr ⟨V,by omega,by rw [<-hV];congr 1;omega,ag⟩
              ·rename_i hr
               have ax:i<m:=by rw [n3]at hr;omega
               obtain ⟨V,e1,L⟩:=a4 i a ax p;exact .inl ⟨V,by omega,by simpa using e1,L⟩
             ·obtain ⟨ar,ay⟩:=Tr.row_spec cs _ _ _ ac
              refine ⟨rfl,fun i a hi p=>?_⟩;rw [Tr.get_lay]at p;simp only [Nat.zero_add,Nat.zero_le,true_and,List.length_append,ar,n3,Nat.sub_zero]at p;rw [Nat.add_mul]at hi;rw [if_pos hi]at p;by_cases an:i<len*k
              ·rw [List.getElem?_append_left (by omega),<-ay i an]at p
               obtain ⟨V,e1,L⟩:=a4 (off+i) a (by omega) p;exact .inl ⟨V,an,by rw [Nat.add_assoc];exact e1,L⟩
              ·rw [List.getElem?_append_right (by omega),ar]at p
               obtain ⟨V,hV,ag⟩:=n2.get p;exact .inr ⟨V,by omega,hV,ag⟩
            obtain ⟨Q,N,ai,hr⟩:∃ Q N,((off=0/\Q=cs.lay m new/\N=m+n*k)∨(∃ old,cs.row off (len*k)=some old/\Q=Tr.leaf.lay 0 (old++new)/\N=(len+n)*k))/\r=.val' (.sl id (g+1) 0 (len+n) (.room k)) (S.put id (.cells (g+1) N Q)):=by
             rw [eO]at f;split at f
             ·rename_i h0
              simp at f;exact ⟨_,_,.inl ⟨h0,rfl,rfl⟩,f.symm⟩
             ·split at f
              ·rename_i old ac
               simp at f;exact ⟨_,_,.inr ⟨old,ac,rfl,rfl⟩,f.symm⟩
              ·simp at f
            subst hr;obtain ⟨ak,ad⟩:=bc Q N ai
            have G:σ id (g+1)=none:=by
             cases ah:σ id (g+1) with
             | none=>rfl
             | some v=>have:=h.gen id _ _ v D ah;simp only [dM]at this;omega
            have aa:N<=C*k∨C<len+n:=by
             by_cases ah:len+n<=C
             ·exact .inl (by rw [ak];exact Nat.mul_le_mul_right _ ah)
             ·exact .inr (by omega)
            by_cases aj:len+n<=C
            ·have H:(len+n)*k<=C*k:=Nat.mul_le_mul_right _ aj
             rw [Nat.add_mul]at H;obtain ⟨w',q,e1,L,e3,e4⟩:=tZ (P:=P) b' el fr NEW (base'+off+len*k) 0 w arr a2 (by rw [hN];omega) (BU n2 U) a5;simp only [Nat.add_zero]at e4
             have al:=JC (w':=w') (y:=.cells (g+1) N Q) (b':=b') (base':=base'+off) (sz':=arr.size) h D a1 rfl L.at_
              (.cells _ _ _ q el fr e3 (by rw [ak,Nat.add_mul];omega) (fun i a hi p=>by
                rcases ad i a hi p with ⟨V,q1,q2,q3⟩ | ⟨V,q1,q2,q3⟩
                ·refine ⟨V,?_,q3.mono (Sg.le_upd _ G)⟩
                 rw [e4,if_neg (by omega)];exact q2
                ·refine ⟨V,?_,q3.mono (Sg.le_upd _ G)⟩
                 rw [e4,if_pos (by rw [hN,ak,Nat.add_mul]at *;omega),<-q2];congr 1;omega) a5)
              (.inl rfl) (by rw [L.size];exact Nat.le_refl _) (fun c _ hc=>L.rest c hc) L.os L.out L.tape
             refine ⟨_,_,w',lG hu hk hd O B (n1 w rfl) aj (fun a e=>by cases e;rw [dB];exact e1) (fun e=>by cases e),?_,al⟩;have:=VR.sl (σ:=σ.upd id (g+1) (b',base'+off,arr.size)) id (g+1) 0 (len+n) (.room k) b' (base'+off) arr.size C (Sg.upd_same _ _ _ _) aj (by show base'+off+0+C*k<=arr.size;omega);exact this
            ·let OLD:List Value:=(List.range (len*k)).map fun j=>arr.getD (base'+off+j) undef
             have au:∀ (j:Nat) v,OLD[j]?=some v->j<len*k/\arr[base'+off+j]?=some v:=by
              intro j v hv
              have hj:j<len*k:=by
               rcases Nat.lt_or_ge j (len*k) with h' | h'
               ·exact h'
               ·rw [List.getElem?_eq_none (by simpa [OLD] using h')]at hv;cases hv
              have hb:base'+off+j<arr.size:=by omega
              simp [OLD,hj,Array.getD_eq_getD_getElem?,Array.getElem?_eq_getElem hb]at hv;exact ⟨hj,by rw [Array.getElem?_eq_getElem hb,hv]⟩
             have T:OLD.length=len*k:=by simp [OLD]
             obtain ⟨C',q,g1,R,g3,g4⟩:=F (some ⟨b',base'+off,none⟩) len C OLD (fun w' az=>by
              have:=iE (P:=P) (w:=w') b' OLD (base'+off) 0 #[] (fun j v hj=>by
               have:=(au j v hj).2
               simp [World.cell?,az,a2,this])
              simp only [Builtin.firstCells,loadCells]
              rw [show len*k=OLD.length from T.symm,this];simp) l (by omega) T
             have bd:(len+n)*k<=q.size:=by rw [g3];exact Nat.mul_le_mul_right _ R
             have al:=JC (w:=w.drew) (w':=w.drew.alloc (.cells q e)) (y:=.cells (g+1) N Q) (b':=w.heap.size) (base':=0) (sz':=q.size) (h.world rfl) D a1 rfl (oR w.drew _)
              (.cells _ _ _ q e (0,0) rfl (by omega) (fun i a hi p=>by
                rw [Nat.zero_add]
                rcases ad i a hi p with ⟨V,q1,q2,q3⟩ | ⟨V,q1,q2,q3⟩
                ·refine ⟨V,g4 i V ?_,q3.mono (Sg.le_upd _ G)⟩
                 rw [List.getElem?_append_left (by omega)]
                 have:OLD[i]?=some (arr.getD (base'+off+i) undef):=by simp [OLD,q1]
                 rw [this,Array.getD_eq_getD_getElem?,q2];rfl
                ·refine ⟨V,g4 i V ?_,q3.mono (Sg.le_upd _ G)⟩
                 rw [List.getElem?_append_right (by omega),T];exact q2) (fun o _=>by omega))
              (.inr (Nat.le_refl _)) (by simp) (fun c hc _=>mF w.drew _ hc) rfl rfl rfl
             refine ⟨_,_,_,g1,?_,(Stp.drew h).trans al⟩;have:=VR.sl (σ:=σ.upd id (g+1) (w.heap.size,0,q.size)) id (g+1) 0 (len+n) (.room k) w.heap.size 0 q.size C' (Sg.upd_same _ _ _ _) R (by show 0+0+C'*k<=q.size;omega);exact this
       ·simp at f
      ·-- sl,with room for at least c
       rename_i id g off len r' c;rw [kU]at f;split at f
       ·rename_i Z
        split at f
        ·rename_i g' m cs D
         cases A:(Nat.beq g g'&&Nat.beq k r'&&Nat.ble (off+c*k) m) with
         | false=>simp [A]at f
         | true=>
           simp only [A,cond_true,Option.some.injEq]at f;subst f;simp only [Bool.and_eq_true,Nat.beq_eq,Nat.ble_eq]at A;obtain ⟨⟨rfl,rfl⟩,hm⟩:=A
           cases hx with
           | sl _ _ _ _ _ b base sz C hs hl E=>
             obtain ⟨aw,M⟩:c<=C/\base+off+C*k<=sz:=E;have H:(len+n)*k<=c*k:=Nat.mul_le_mul_right _ Z;rw [Nat.add_mul]at H
             have aa:len+n<=C:=by omega
             obtain ⟨w',e1,L⟩:=zC (P:=P) (cs:=new) (off:=off+len*k) (o:=base+off+len*k) h D ⟨_,hs⟩ (by rw [n3];omega) n2 U (by omega);refine ⟨σ,_,w',lG hu hk hd O B (n1 w rfl) aa (fun a e=>by cases e;rw [dB];exact e1) (fun e=>by cases e),.sl _ _ _ _ _ b base sz C hs aa (rH M aw),L⟩
        ·simp at f
       ·simp at f
      ·simp at f
  ·simp at f
 ·simp at f
end
end Go.Abs
/-
 The abstract machine: copies,conversions,maps,assertions.
-/
namespace Go.Abs
section
variable {P:Program} {σ:Sg} {S:Sto} {w:World}
theorem aJs {t u:TypeId} {x y:AV} {X Y:Value} {r:ORes} (h:Rel σ S w) (a:aJw P S t x y=some r) (H:VR σ x X) (N:VR σ y Y):
 GE σ S w (fun V w'=>∀ (ts:Array TypeId),ts[0]?=some t->(Builtin.copy_ ts u #[X,Y]).run P w=.ok V w') r:=by
 unfold aJw at a;split at a
 ·rename_i e M
  split at a
  ·rename_i k E I L F G
   obtain ⟨_,q⟩:=yZ (P:=P) (w:=w) F H;obtain ⟨c,_⟩:=yZ (P:=P) (w:=w) G N;split at a
   ·simp at a
   ·rename_i new B
    obtain ⟨NEW,Z,n2,n3,_⟩:=pV (P:=P) h B N;have l:=Z w rfl;split at a
    ·cases H
     simp at a;subst a;have d:(0:Nat)=E:=q none 0 0 rfl;subst d
     have A:Nat.min I 0=0:=by simp
     rw [A]at l;refine ⟨.int .i64 0,w,fun ts f=>?_,.int _ _,Quiet.refl w⟩;simp [Builtin.copy_,f,aB M,c,aW L,l,goInt]
    ·rename_i id g off len cap
     split at a
     ·rename_i R m cs v
      cases D:(Nat.beq g R&&Nat.ble (off+Nat.min I E*k) m&&new.all AV.isCell) with
      | false=>simp only [D,cond_false,reduceCtorEq]at a
      | true=>
        simp only [D,cond_true,Option.some.injEq]at a;subst a;simp only [Bool.and_eq_true,Nat.beq_eq,Nat.ble_eq]at D;obtain ⟨⟨rfl,T⟩,p⟩:=D
        cases H with
        | sl _ _ _ _ _ b base sz C U hl J=>
          have d:len=E:=q _ _ _ rfl;subst d;obtain ⟨w',O,Q⟩:=zC (P:=P) (cs:=new) (off:=off) (o:=base+off) h v ⟨_,U⟩ (by rw [n3];exact T) n2 p rfl;refine ⟨σ,.int .i64 (Nat.min I len:Nat),w',fun ts f=>?_,.int _ _,Q⟩;simp [Builtin.copy_,f,aB M,c,aW L,l,goInt,O]
     ·simp at a
    ·simp at a
  ·simp at a
 ·simp at a
theorem QU {α:Type} (xs:Array α) (a:α) (f:α->α):(xs.push a).modify xs.size f=xs.push (f a):=by
 apply Array.ext
 ·simp
 ·intro i d b
  rw [Array.getElem_modify];by_cases c:xs.size=i
  ·subst c;simp
  ·rw [if_neg c,Array.getElem_push_lt (by simp at b;omega),Array.getElem_push_lt (by simp at b;omega)]
theorem GF {e:TypeId} {b:List Nat} {a:ByteArray} {id:Nat} {A:Sto} (h:Rel σ S w) (F:nT S (fL b)=some (id,A)) (B:a.data.toList.map (·.toNat)=b):
 ∃ τ V w',(Conv.stringToBytes e a).run P w=.ok V w'/\VR τ (.sl id 0 0 b.length (.room 1)) V/\Stp σ S w τ A w':=by
 have v:=pX B
 let cap:=a.size+(w.tape w.drawn (.appendCap a.size 0 e))%(2 ^ 63-a.size)
 let arr:Array Value:=(a.data.map fun b=>Value.int .u8 b.toNat)++Array.replicate (cap-a.size) (.int .u8 0)
 have d:arr.size=cap:=by
  have:(a.data.map fun b=>Value.int .u8 b.toNat).size=a.size:=by simp
  show ((a.data.map fun b=>Value.int .u8 b.toNat)++Array.replicate (cap-a.size) (Value.int .u8 0)).size=cap;rw [Array.size_append,this,Array.size_replicate];omega
 have y:VRs σ (fL b) (a.data.toList.map fun b=>Value.int .u8 b.toNat):=by
  rw [<-B,fL,List.map_map]
  exact VRs.map _ _ _ fun x _=>.int _ _
 have k:(a.data.toList.map fun b=>Value.int .u8 b.toNat).length=a.size:=by rw [List.length_map,Array.length_toList];rfl
 obtain ⟨τ,D,E⟩:=vE (w:=w.drew) (arr:=arr) e (cap,cap+1) (h.world rfl) F y (Nat.le_trans (Nat.le_of_eq k) (by rw [d];exact Nat.le_add_right _ _))
  (fun i V q=>by
    have u:i<(a.data.toList.map fun b=>Value.int .u8 b.toNat).length:=by
     rcases Nat.lt_or_ge i (a.data.toList.map fun b=>Value.int .u8 b.toNat).length with p | p
     ·exact p
     ·rw [List.getElem?_eq_none p]at q;cases q
    show ((a.data.map fun b=>Value.int .u8 b.toNat)++Array.replicate (cap-a.size) (Value.int .u8 0))[i]?=some V
    rw [Array.getElem?_append_left (by simpa using u),<-q,<-Array.getElem?_toList,Array.toList_map])
  (fun o G=>by rw [d]at G;omega)
 refine ⟨τ,.slice (some ⟨w.heap.size,0,none⟩) a.size cap,_,?_,?_,(Stp.drew h).trans D⟩
 ·have r:((w.drew.alloc (.cells arr e)).freeze ⟨w.heap.size,cap,none⟩ 1)=w.drew.alloc (.cells arr e (cap,cap+1)):=by
   have:=QU w.heap (Obj.cells arr e) (fun
    | .cells c l (lo,C)=>.cells c l (if lo==C then (cap,cap+1) else (min lo cap,max C (cap+1)))
    | o=>o)
   exact congrArg (fun h=>({heap:=h,tape:=w.tape,drawn:=w.drawn+1,os:=w.os,output:=w.output}:World)) this
  have f:(w.drew.alloc (.cells arr e)).shape? w.heap.size=some (e,cap):=by
   have this:(w.drew.alloc (.cells arr e)).heap[w.heap.size]?=some (.cells arr e):=oR w.drew (.cells arr e);unfold World.shape?;rw [this];simp [d]
  have m:arr=(a.data.map fun b=>Value.int .u8 b.toNat)++Array.replicate (cap-a.size) (.int .u8 0):=rfl;simp only [Conv.stringToBytes,Sem.run_bind,run_choose,Question.forced,Bool.false_eq_true,if_false,Question.cut,Result.andThen_ok,gI,World.drew_eq];simp only [markStringish,Sem.run_bind,run_shape,World.size_drew,Result.andThen_ok];rw [<-m];simp only [f,run_freeze,Sem.run_pure,Result.andThen_ok];rw [r]
 ·rw [v]
  exact VR.sl id 0 0 b.length (.room 1) w.heap.size 0 arr.size cap E (by omega) (by show 0+0+cap*1<=arr.size;omega)
theorem VO:∀ (l:List AV) (b:List Nat) (vs:List Value),ofBytes l=some b->VRs σ l vs->∃ ns:List Int,vs=ns.map (Value.int .u8)/\b=ns.map fun n=>n.toNat%256:=by
 intro l
 induction l with
 | nil=>intro b vs h a;simp [ofBytes]at h;subst h;rw [a.nil_inv];exact ⟨[],rfl,rfl⟩
 | cons x l m=>
   intro b vs h a;unfold ofBytes at h;split at h
   ·rename_i d;cases d
   ·rename_i n l' c
    obtain ⟨rfl,rfl⟩:=List.cons.inj c;split at h
    ·rename_i r e
     simp at h;subst h;obtain ⟨X,o,rfl,k,f⟩:=a.head;obtain ⟨ns,rfl,rfl⟩:=m r o e f;cases k;exact ⟨n::ns,rfl,rfl⟩
    ·simp at h
   ·simp at h
theorem VP (ns:List Int) (s:ByteArray):(ns.foldl (fun r n=>r.push (UInt8.ofNat n.toNat)) s).data.toList=s.data.toList++ns.map fun n=>UInt8.ofNat n.toNat:=by
 induction ns generalizing s with
 | nil=>simp
 | cons n ns a=>rw [List.foldl_cons,a];simp [ByteArray.push]
theorem aJt {v dst:TypeId} {x:AV} {X:Value} {r:ORes} (h:Rel σ S w) (f:jC P S v dst x=some r) (u:VR σ x X):
 GE σ S w (fun V w'=>(convert v dst X).run P w=.ok V w') r:=by
 unfold jC at f;split at f
 ·rename_i F k ks n m p
  cases u;rw [eW]at f;simp at f;subst f;exact ⟨_,w,by simp [convert,aB m,aB p,Conv.intToInt],.int _ _,Quiet.refl w⟩
 ·rename_i F b m p
  obtain ⟨I,rfl,A⟩:=bW u;simp at f;subst f;exact ⟨_,w,by simp [convert,aB m,aB p],.str _ _ A,Quiet.refl w⟩
 ·rename_i F e b m p
  obtain ⟨I,rfl,A⟩:=bW u;split at f
  ·rename_i B
   split at f
   ·rename_i id R Q
    simp at f;subst f;obtain ⟨τ,V,w',L,M,N⟩:=GF (P:=P) (e:=e) h Q A;exact ⟨τ,V,w',by simp [convert,aB m,aB p,aB B,L],M,N⟩
   ·simp at f
  ·simp at f
 ·rename_i e m p o
  split at f
  ·rename_i n B d
   split at f
   ·rename_i l O
    split at f
    ·rename_i b A
     simp at f;subst f;obtain ⟨H,G,J,T,_⟩:=pV (P:=P) h O u;obtain ⟨ns,rfl,rfl⟩:=VO l b H A J;obtain ⟨_,C⟩:=yZ (P:=P) (w:=w) d u
     have q:∀ (s:ByteArray),(ns.foldl (fun r n=>r.push (UInt8.ofNat n.toNat)) ByteArray.empty)=s->VR σ (.str (ns.map fun n=>n.toNat%256)) (.string s):=by
      intro s m;refine .str _ _ ?_;rw [<-m,VP];simp
     have E:∃ a c,X=.slice a n c:=by
      unfold pZ at d;split at d
      ·cases u;simp at d;subst d;exact ⟨_,_,rfl⟩
      ·cases u;simp at d;subst d;exact ⟨_,_,rfl⟩
      ·cases u;simp at d;subst d;exact ⟨_,_,rfl⟩
      ·exact (o _ rfl).elim
      ·simp at d
     obtain ⟨a,c,rfl⟩:=E
     cases a with
     | none=>
       have y:=G w rfl;simp only [Builtin.firstCells,Sem.run_pure,Result.ok.injEq,and_true]at y
       have D:ns=[]:=by
        have:=congrArg Array.size y;simp at this;exact List.eq_nil_of_length_eq_zero this.symm
       subst D;exact ⟨_,w,by simp [convert,aB m,aB p,aB B,Conv.bytesToString],q _ rfl,Quiet.refl w⟩
     | some a=>
       have y:=G w rfl;simp only [Builtin.firstCells,Nat.mul_one]at y;refine ⟨_,w,?_,q _ rfl,Quiet.refl w⟩;rw [run_convert_bytes_string w v dst e (some a) n c m B p];exact run_bytesToString w a n c ns y
    ·simp at f
   ·simp at f
  ·simp at f
 ·simp at f
end
end Go.Abs
/-
 The abstract machine: maps,new slices,assertions,least and greatest.
-/
namespace Go.Abs
section
variable {P:Program} {σ:Sg} {S:Sto} {w:World}
theorem cZ {r:Nat} {o:Obj} (h:w.heap[r]?=some o) (a:∀ c e f,o≠.cells c e f):(getObj r).run P w=.ok o w:=by
 simp only [getObj,Sem.run,h]
theorem iC {r:Nat} {o o':Obj} (h:w.heap[r]?=some o) (a:∀ c e f,o≠.cells c e f):(setObj r o').run P w=.ok () {w with heap:=w.heap.setIfInBounds r o'}:=by
 simp only [setObj,Sem.run,h]
theorem nH {r:Nat} {o o':Obj} (h:w.heap[r]?=some o):Upd w {w with heap:=w.heap.setIfInBounds r o'} r o':=by
 have c:=(Array.getElem?_eq_some_iff.1 h).1;refine ⟨?_,by simp,fun b a=>?_,rfl,rfl,rfl⟩
 ·simp [c]
 ·simp only [Array.getElem?_setIfInBounds]
  rw [if_neg (Ne.symm a)]
inductive EsR (σ:Sg):List (AV × AV × Nat)->List MapEntry->Prop
 | nil:EsR σ [] []
 | cons (k v:AV) (b:Nat) (E:MapEntry) (es:List (AV × AV × Nat)) (ES:List MapEntry):VR σ k E.key->VR σ v E.val->E.born=b->EsR σ es ES->EsR σ ((k,v,b)::es) (E::ES)
theorem EsR.length {b:List (AV × AV × Nat)} {a:List MapEntry} (h:EsR σ b a):b.length=a.length:=by
 induction h with
 | nil=>rfl
 | cons=>simp [*]
theorem EsR.of_obj:∀ (c:List (AV × AV × Nat)) (a:List MapEntry),c.length=a.length->
 (∀ (i:Nat) k v b E,c[i]?=some (k,v,b)->a[i]?=some E->VR σ k E.key/\VR σ v E.val/\E.born=b)->EsR σ c a:=by
 intro c
 induction c with
 | nil=>intro a h _;cases a with
   | nil=>exact .nil
   | cons=>simp at h
 | cons x c p=>
   intro a h d
   cases a with
   | nil=>simp at h
   | cons E a=>
     obtain ⟨k,v,b⟩:=x;obtain ⟨l,m,o⟩:=d 0 k v b E rfl rfl;exact .cons k v b E c a l m o (p a (by simpa using h) fun i k v b E e f=>d (i+1) k v b E (by simpa using e) (by simpa using f))
theorem EsR.obj {e:List (AV × AV × Nat)} {d:List MapEntry} (h:EsR σ e d) (f base sz:Nat):ObjR σ base sz (.map e f) (.map d.toArray f):=by
 refine .map e f d.toArray (by simpa using h.length) ?_;intro i k v b E a c;simp only [List.getElem?_toArray]at c
 induction h generalizing i with
 | nil=>simp at a
 | cons u v' b' q e d l m o r p=>
   cases i with
   | zero=>simp at a c;obtain ⟨rfl,rfl,rfl⟩:=a;subst c;exact ⟨l,m,o⟩
   | succ i=>simp at a c;exact p i a c
theorem EsR.mono {τ:Sg} (h:σ.le τ) {c:List (AV × AV × Nat)} {a:List MapEntry} (l:EsR σ c a):EsR τ c a:=by
 induction l with
 | nil=>exact .nil
 | cons k v b E c a d e f o m=>exact .cons _ _ _ _ _ _ (d.mono h) (e.mono h) f m
theorem Rel.map {id c:Nat} {d:List (AV × AV × Nat)} (h:Rel σ S w) (q:S.get id=some (.map d c)):∃ b base sz a,σ id 0=some (b,base,sz)/\w.heap[b]?=some (.map a c)/\EsR σ d a.toList:=by
 obtain ⟨b,base,sz,o,l,m,p⟩:=h.obj id _ q
 cases p with
 | map _ _ a e f=>exact ⟨b,base,sz,a,l,m,.of_obj _ _ (by simpa using e) fun i k v b E r u=>f i k v b E r (by simpa using u)⟩
theorem QV {d:TypeDesc} {k k':AV} {K K':Value} {r:Bool} (hk:jX d k=true) (h:rW k k'=some r) (h1:VR σ k K) (h2:VR σ k' K'):Instr.sameNow d K K'=some r/\(r=true->K=K'/\Instr.sameBits 10000 K' K=true):=by
 unfold rW at h;split at h
 ·cases h1;cases h2
  rw [oB]at h;split at h
  ·rename_i he;subst he
   simp at h;subst h;cases d<;>simp [jX]at hk;refine ⟨by simp [Instr.sameNow,cT],fun hr=>?_⟩;rw [cT]at hr;have:=eq_of_beq hr;subst this;exact ⟨rfl,by simp [Instr.sameBits]⟩
  ·simp at h
 ·obtain ⟨b1,rfl,e1⟩:=bW h1
  obtain ⟨b2,rfl,e2⟩:=bW h2;simp at h;subst h;cases d<;>simp [jX]at hk
  have:(fI Nat.beq (b1.data.toList.map (·.toNat)) (b2.data.toList.map (·.toNat)))=(b1==b2):=by
   rw [zD,beq_toListBytes,ByteArray.toList_eq,ByteArray.toList_eq]
  rw [<-e1,<-e2,this];refine ⟨by simp [Instr.sameNow],fun hr=>?_⟩;have hr':=hr;rw [beq_toListBytes,ByteArray.toList_eq,ByteArray.toList_eq]at hr'
  have hb:b1=b2:=by
   have:=eq_of_beq hr';cases b1;cases b2;simp only [ByteArray.mk.injEq];exact Array.toList_inj.1 this
  subst hb;exact ⟨rfl,by simp [Instr.sameBits,hr]⟩
 ·cases h1;cases h2
  simp at h;subst h;cases d<;>simp [jX]at hk;refine ⟨by simp [Instr.sameNow],fun hr=>?_⟩;have:=eq_of_beq hr;subst this;exact ⟨rfl,by simp [Instr.sameBits]⟩
 ·simp at h
theorem pW {d:TypeDesc} {k:AV} {K:Value} (p:jX d k=true) (o:VR σ k K) {f:List (AV × AV × Nat)} {a:List MapEntry} (D:EsR σ f a):∀ (i:Nat) (r:Option (Nat × AV)),iF k f i=some r->
 (r=none/\Instr.findNow d K a i=some none)∨(∃ j v V E,r=some (j,v)/\Instr.findNow d K a i=some (some (j,V))/\VR σ v V/\i<=j/\a[j-i]?=some E/\Instr.sameBits 10000 E.key K=true):=by
 induction D with
 | nil=>intro i r h;simp [iF]at h;subst h;exact .inl ⟨rfl,rfl⟩
 | cons J v b E f a m C H I F=>
   intro i r h;simp only [iF]at h;split at h
   ·rename_i l
    simp at h;subst h;obtain ⟨c,q⟩:=QV p l o m;exact .inr ⟨i,v,E.val,E,rfl,by simp [Instr.findNow,c],C,Nat.le_refl _,by simp,(q rfl).2⟩
   ·rename_i l
    obtain ⟨c,q⟩:=QV p l o m
    rcases F (i+1) r h with ⟨rfl,e⟩ | ⟨j,v',V,u,rfl,e,y,G,A,B⟩
    ·exact .inl ⟨rfl,by simp [Instr.findNow,c,e]⟩
    ·refine .inr ⟨j,v',V,u,rfl,by simp [Instr.findNow,c,e],y,by omega,?_,B⟩
     rw [show j-i=(j-(i+1))+1 by omega];simpa using A
   ·simp at h
theorem run_checkKey {b:Bool} {n:Nat} {t:TypeId} {d:TypeDesc} {k:AV} {K:Value} (e:P.underlying t=some d) (c:jX d k=true) (a:VR σ k K):(Instr.checkKey b (n+1) t K).run P w=.ok () w:=by
 unfold jX at c;split at c
 ·cases a;simp [Instr.checkKey,aB e]
 ·obtain ⟨f,rfl,_⟩:=bW a;simp [Instr.checkKey,aB e]
 ·cases a;simp [Instr.checkKey,aB e]
 ·simp at c
theorem oA {t:TypeId} {d:TypeDesc} {e:TypeId} (h:gJ P t=some (d,e)):∃ k,P.underlying t=some (.map k e)/\P.underlying k=some d:=by
 unfold gJ at h;split at h
 ·rename_i k e' b
  split at h
  ·rename_i c a
   simp at h;obtain ⟨rfl,rfl⟩:=h;exact ⟨k,b,a⟩
  ·simp at h
 ·simp at h
theorem gH {t:TypeId} {d:TypeDesc} {K:Value} {a:List MapEntry} {r:Option (Nat × Value)} (b:P.underlying t=some d) (h:Instr.findNow d K a 0=some r):(Instr.findKey t K a).run P w=.ok r w:=by
 simp [Instr.findKey,aB b,h]
theorem jV {b:Bool} {t:TypeId} {d:TypeDesc} {k:AV} {K:Value} (e:P.underlying t=some d) (c:jX d k=true) (a:VR σ k K):(Instr.checkKey b 10000 t K).run P w=.ok () w:=
 run_checkKey (n:=9999) e c a
theorem VQ {t:TypeId} {m k v:AV} {M K:Value} {r:Bool} (h:Rel σ S w) (a:alookup P S t m k r=some v) (J:VR σ m M) (I:VR σ k K):∃ V,(Instr.lookup t M K r).run P w=.ok V w/\VR σ v V:=by
 unfold alookup at a;split at a
 ·rename_i d e X
  obtain ⟨kt,L,p⟩:=oA X
  cases f:jX d k with
  | false=>simp only [f,cond_false,reduceCtorEq]at a
  | true=>
    simp only [f,cond_true]at a
    have u:=fun b=>jV (P:=P) (w:=w) (b:=b) p f I
    have o:∀ V v',VR σ v' V->VR σ (bif r then .tuple [v',.bool true] else v') (if r then .tuple #[V,.bool true] else V):=by
     intro V v' B;cases r
     ·exact B
     ·exact VR.tuple_iff.2 ⟨_,rfl,VRs.cons B (VRs.cons (.bool _) (VRs.nil _))⟩
    have l:∀ V v',VR σ v' V->VR σ (bif r then .tuple [v',.bool false] else v') (if r then .tuple #[V,.bool false] else V):=by
     intro V v' B;cases r
     ·exact B
     ·exact VR.tuple_iff.2 ⟨_,rfl,VRs.cons B (VRs.cons (.bool _) (VRs.nil _))⟩
    split at a
    ·rename_i q v' c
     simp at a;subst a;split at c
     ·simp at c
     ·rename_i id
      split at c
      ·rename_i U T H
       obtain ⟨b,base,sz,R,D,F,G⟩:=h.map H
       cases J with
       | map _ b' base' sz' A=>
         rw [D]at A
         obtain ⟨rfl,rfl,rfl⟩:b=b'/\base=base'/\sz=sz':=by simpa using A
         rcases pW f I G 0 _ c with ⟨y,_⟩ | ⟨j,v2,V,E,y,C,N,_⟩
         ·cases y
         ·simp at y;obtain ⟨rfl,rfl⟩:=y
          refine ⟨_,?_,o V v' N⟩;simp [Instr.lookup,aB L,cZ F (fun _ _ _=>by simp),u,gH p C]
      ·simp at c
     ·simp at c
    ·rename_i c
     split at a
     ·rename_i z Y
      obtain ⟨Z,O,Q,_⟩:=iD Y;simp at a;subst a;split at c
      ·cases J
       refine ⟨_,?_,l Z z (Q σ)⟩;have:Instr.findNow d K [] 0=some none:=rfl;simp [Instr.lookup,aB L,u,gH p this,O]
      ·rename_i id
       split at c
       ·rename_i U T H
        obtain ⟨b,base,sz,R,D,F,G⟩:=h.map H
        cases J with
        | map _ b' base' sz' A=>
          rw [D]at A
          obtain ⟨rfl,rfl,rfl⟩:b=b'/\base=base'/\sz=sz':=by simpa using A
          rcases pW f I G 0 _ c with ⟨_,C⟩ | ⟨j,v2,V,E,y,C,N,_⟩
          ·refine ⟨_,?_,l Z z (Q σ)⟩
           simp [Instr.lookup,aB L,cZ F (fun _ _ _=>by simp),u,gH p C,O]
          ·cases y
       ·simp at c
      ·simp at c
     ·simp at a
    ·simp at a
 ·simp at a
theorem EsR.set {c:List (AV × AV × Nat)} {a:List MapEntry} (h:EsR σ c a) (i:Nat) {k v:AV} {K V:Value} (o:VR σ k K) (p:VR σ v V):EsR σ (WB c i k v) (a.modify i fun e=>{e with key:=K,val:=V}):=by
 induction h generalizing i with
 | nil=>cases i<;>exact .nil
 | cons r v' b E c a f l d m q=>
   cases i with
   | zero=>exact .cons _ _ _ _ _ _ o p d m
   | succ i=>exact .cons _ _ _ _ _ _ f l d (q i)
theorem EsR.del {c:List (AV × AV × Nat)} {a:List MapEntry} (h:EsR σ c a) (i:Nat):EsR σ (aRw c i) (a.eraseIdx i):=by
 induction h generalizing i with
 | nil=>cases i<;>exact .nil
 | cons m v' b E c a d e f k l=>
   cases i with
   | zero=>exact k
   | succ i=>exact .cons _ _ _ _ _ _ d e f (l i)
theorem EsR.append {a b:List (AV × AV × Nat)} {A B:List MapEntry} (h:EsR σ a A) (c:EsR σ b B):EsR σ (a++b) (A++B):=by
 induction h with
 | nil=>exact c
 | cons p v' b E m l d e f o k=>exact .cons _ _ _ _ _ _ d e f k
theorem wA {t:TypeId} {m k v:AV} {M K V:Value} {H:Sto} (h:Rel σ S w) (a:cU P S t m k v=some H) (U:VR σ m M) (y:VR σ k K) (L:VR σ v V):
 ∃ w',(Instr.mapUpdate t M K V).run P w=.ok () w'/\Stp σ S w σ H w':=by
 unfold cU at a;split at a
 ·rename_i d e id T
  obtain ⟨kt,J,p⟩:=oA T
  cases f:jX d k with
  | false=>simp only [f,cond_false,reduceCtorEq]at a
  | true=>
    simp only [f,cond_true]at a;split at a
    ·rename_i Z l F
     obtain ⟨b,base,sz,o,C,r,A⟩:=h.map F
     cases U with
     | map _ b' base' sz' I=>
       rw [C]at I
       obtain ⟨rfl,rfl,rfl⟩:b=b'/\base=base'/\sz=sz':=by simpa using I
       have u:=jV (P:=P) (w:=w) (b:=false) p f y;split at a
       ·rename_i i v' D
        simp at a;subst a
        rcases pW f y A 0 _ D with ⟨q,_⟩ | ⟨j,v2,N,E,q,B,X,Y,O,Q⟩
        ·cases q
        ·simp at q;obtain ⟨rfl,rfl⟩:=q
         have R:o[i]?=some E:=by simpa using O
         have c:=nH (o':=.map (o.modify i fun e=>{e with key:=K,val:=V}) l) r;refine ⟨_,?_,stp_put h F C rfl c.at_ ?_ c.size c.rest c.os c.out c.tape⟩
         ·simp [Instr.mapUpdate,aB J,cZ r (fun _ _ _=>by simp),u,gH p B,R,Instr.keyThatStays,Q,iC r (fun _ _ _=>by simp)]
         ·have:=(A.set i y L).obj l base sz
          have G:(o.toList.modify i fun e=>{e with key:=K,val:=V}).toArray=o.modify i fun e=>{e with key:=K,val:=V}:=by
           apply Array.toList_inj.1;simp
          rw [G]at this;exact this
       ·rename_i D
        simp at a;subst a
        rcases pW f y A 0 _ D with ⟨_,B⟩ | ⟨j,v2,N,E,q,_⟩
        ·have c:=nH (o':=.map (o.push {key:=K,val:=V,born:=l}) (l+1)) r
         refine ⟨_,?_,stp_put h F C rfl c.at_ ?_ c.size c.rest c.os c.out c.tape⟩
         ·simp [Instr.mapUpdate,aB J,cZ r (fun _ _ _=>by simp),u,gH p B,iC r (fun _ _ _=>by simp)]
         ·have:=(A.append (.cons k v l {key:=K,val:=V,born:=l} [] [] y L rfl .nil)).obj (l+1) base sz
          have G:(o.toList++[({key:=K,val:=V,born:=l}:MapEntry)]).toArray=o.push {key:=K,val:=V,born:=l}:=by
           apply Array.toList_inj.1;simp
          rw [G]at this;exact this
        ·cases q
       ·simp at a
    ·simp at a
 ·simp at a
theorem aDc {a:ByteArray} {b:List Nat} (h:a.data.toList.map (·.toNat)=b):nK b=a:=by
 subst h;obtain ⟨d⟩:=a;simp only [nK,List.map_map]
 congr 1
 apply Array.toList_inj.1
 have:(UInt8.ofNat ∘ fun x:UInt8=>x.toNat)=id:=by funext x;simp
 simp [this]
theorem aJu {I:AV} {str:Bool} {X:Value} {ty:TypeId} {r:ORes} (h:Rel σ S w) (d:anext S I str=some r) (Q:VR σ I X):
 (∃ v V,r=.val v/\(Instr.next X str ty).run P w=.ok V w/\VR σ v V)∨(∃ v V D w',r=.val' v D/\(Instr.next X str ty).run P w=.ok V w'/\VR σ v V/\Stp σ S w σ D w'):=by
 unfold anext at d
 cases str with
 | false=>simp at d
 | true=>
   simp only [cond_true]at d;split at d
   ·rename_i id
    split at d
    ·rename_i b a G
     obtain ⟨b',base,sz,o,F,u,N⟩:=h.obj id _ G
     cases N with
     | siter _ _ m B R=>
       subst R
       cases Q with
       | ptr _ _ _ J k C H=>
         have A:σ id 0=some (b',0,sz):=F;rw [A]at H
         obtain ⟨rfl,rfl,rfl⟩:b'=J/\0=k/\sz=C:=by simpa using H
         have f:b.length=m.size:=by
          have E:=congrArg List.length B;rw [List.length_map,Array.length_toList]at E;exact E.symm
         rw [aDc B]at d
         cases y:Nat.blt a b.length with
         | true=>
           rw [y]at d
           rcases e:Utf8.decode m a with ⟨c,wd⟩
           rw [e]at d;simp only [cond_true,Option.some.injEq]at d;subst d
           have l:a<m.size:=by rw [<-f];simpa using y
           have p:=nH (o':=.stringIter m (a+wd)) u;refine .inr ⟨_,.tuple #[.bool true,goInt a,.int .i32 c],_,_,rfl,?_,?_,stp_put h G F rfl p.at_ (.siter _ _ _ B rfl) p.size p.rest p.os p.out p.tape⟩
           ·have L:=cZ (P:=P) u (fun _ _ _ q=>by cases q)
            have M:=iC (P:=P) (o':=.stringIter m (a+wd)) u (fun _ _ _ q=>by cases q);simp [Instr.next,L,M,l,e]
           ·exact VR.tuple_iff.2 ⟨_,rfl,VRs.cons (.bool _) (VRs.cons (.int _ _) (VRs.cons (.int _ _) (VRs.nil _)))⟩
         | false=>
           rw [y]at d;simp only [cond_false,Option.some.injEq]at d;subst d
           have l:¬ a<m.size:=by
            rw [<-f];intro O
            have:Nat.blt a b.length=true:=by simpa using O
            rw [y]at this;cases this
           refine .inl ⟨_,.tuple #[.bool false],rfl,?_,VR.tuple_iff.2 ⟨_,rfl,VRs.cons (.bool _) (VRs.nil _)⟩⟩;simp [Instr.next,cZ u (fun _ _ _ q=>by cases q),l]
    ·simp at d
   ·simp at d
theorem VT {t u:TypeId} {m k:AV} {M K:Value} {J:Sto} (h:Rel σ S w) (c:MY P S t m k=some J) (L:VR σ m M) (B:VR σ k K):
 ∃ w',(∀ (ts:Array TypeId),ts[0]?=some t->(Builtin.delete_ ts u #[M,K]).run P w=.ok (.tuple #[]) w')/\Stp σ S w σ J w':=by
 unfold MY at c;split at c
 ·rename_i d e G
  obtain ⟨R,C,o⟩:=oA G
  cases a:jX d k with
  | false=>simp only [a,cond_false,reduceCtorEq]at c
  | true=>
    simp only [a,cond_true,Option.some.injEq]at c;subst c;cases L;refine ⟨w,fun ts l=>?_,Stp.refl h⟩;simp [Builtin.delete_,l,aB C,jV (P:=P) (w:=w) o a B]
 ·rename_i d e id G
  obtain ⟨R,C,o⟩:=oA G
  cases a:jX d k with
  | false=>simp only [a,cond_false,reduceCtorEq]at c
  | true=>
    simp only [a,cond_true]at c;split at c
    ·rename_i Y y I
     obtain ⟨b,base,sz,v,F,q,A⟩:=h.map I
     cases L with
     | map _ b' base' sz' N=>
       rw [F]at N
       obtain ⟨rfl,rfl,rfl⟩:b=b'/\base=base'/\sz=sz':=by simpa using N
       have r:=fun b=>jV (P:=P) (w:=w) (b:=b) o a B
       split at c
       ·rename_i i v' H
        simp at c;subst c
        rcases pW a B A 0 _ H with ⟨p,_⟩ | ⟨j,v2,O,E,p,D,T,U,V,X⟩
        ·cases p
        ·simp at p;obtain ⟨rfl,rfl⟩:=p
         have f:=nH (o':=.map (v.eraseIdxIfInBounds i) y) q;refine ⟨_,fun ts l=>?_,stp_put h I F rfl f.at_ ?_ f.size f.rest f.os f.out f.tape⟩
         ·simp [Builtin.delete_,l,aB C,cZ q (fun _ _ _=>by simp),r,gH o D,iC q (fun _ _ _=>by simp)]
         ·have:=(A.del i).obj y base sz
          have Q:(v.toList.eraseIdx i).toArray=v.eraseIdxIfInBounds i:=by
           apply Array.toList_inj.1;simp
          rw [Q]at this;exact this
       ·rename_i H
        simp at c;subst c
        rcases pW a B A 0 _ H with ⟨_,D⟩ | ⟨j,v2,O,E,p,_⟩
        ·have f:=nH (o':=.map v y) q
         refine ⟨_,fun ts l=>?_,stp_put h I F rfl f.at_ ?_ f.size f.rest f.os f.out f.tape⟩
         ·simp [Builtin.delete_,l,aB C,cZ q (fun _ _ _=>by simp),r,gH o D,iC q (fun _ _ _=>by simp)]
         ·have:=A.obj y base sz
          simpa using this
        ·cases p
       ·simp at c
    ·simp at c
 ·simp at c
end
end Go.Abs
