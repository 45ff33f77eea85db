/-
  The abstract machine: what is copied, appended, converted.
-/
import Derived.Test.YthakciolcdlphaaGreatUd
set_option linter.unusedVariables false
set_option linter.unusedSimpArgs false
namespace Go.Abs
section
variable {P:Program} {σ:Sg} {S:Sto} {w:World}
theorem PI:∀ (fs:List Field) (ps:List (Nat × Nat)) (acc:Array (Nat × Nat)) (w:World),pP P fs=some ps->
 (fs.foldlM (fun bs a=>bs.push <$> do let n <-sizeOf a.type;pure (a.offset,n)) acc:Sem (Array (Nat × Nat))).run P w=.ok (acc++ps.toArray) w:=by
 intro fs
 induction fs with
 | nil=>intro ps acc w h;simp [pP]at h;subst h;simp
 | cons f fs ih=>
   intro ps acc w h
   simp only [pP]at h
   split at h
   ·simp at h
   ·rename_i n hn
    split at h
    ·simp at h
    ·rename_i r hr
     simp at h;subst h
     simp only [List.foldlM_cons,Sem.run_bind,Sem.run_map,aS hn,Result.andThen_ok,Sem.run_pure]
     rw [ih r _ w hr]
     simp
theorem WM {t:TypeId} {parts:List (Nat × AV)} {PARTS:Array (Nat × Value)} {v:AV} (h:nK P t parts=some v) (hl:parts.length=PARTS.size)
 (hp:∀ (i:Nat) n x N X,parts[i]?=some (n,x)->PARTS[i]?=some (N,X)->n=N/\VR σ x X):∃ V,(∀ w,(Instr.build t PARTS).run P w=.ok V w)/\VR σ v V:=by
 unfold nK at h
 split at h
 ·rename_i z fields hz hu
  obtain ⟨Z,z1,z2,z3,z4,_⟩:=gG hz
  split at h
  ·rename_i ps hps
   split at h
   ·rename_i cs hf
    simp at h;subst h
    have hpl:PARTS.toList.length=parts.length:=by simp [hl]
    obtain ⟨Cs',e1,e2,_,_⟩:=HR (σ:=σ) _ parts PARTS.toList z.cells cs Z.cells hf (z3 σ) hpl.symm (fun i n x N X h1 h2=>hp i n x N X h1 (by simpa using h2)) z4
    refine ⟨.agg Cs',fun w=>?_,VR.agg_iff.2 ⟨_,rfl,e2⟩⟩
    simp only [Instr.build,Sem.run_bind,z1,Result.andThen_ok,aD hu]
    have hm:(fields.mapM (fun f=>(do let n <-sizeOf f.type;pure (f.offset,n):Sem (Nat × Nat)))).run P w=.ok ps.toArray w:=by
     rw [Array.mapM_eq_foldlM,<-Array.foldlM_toList,PI _ _ _ w hps];simp
    rw [hm]
    simp only [Result.andThen_ok]
    have:Instr.fill (fun (x:Nat)=>ps.toArray[x]?) Z.cells PARTS.toList=some Cs':=by
     have:(fun (x:Nat)=>ps.toArray[x]?)=fun (x:Nat)=>ps[x]?:=by funext i;simp
     rw [this];exact e1
    rw [this]
    rfl
   ·simp at h
  ·simp at h
 ·rename_i z n elem hz hu
  obtain ⟨Z,z1,z2,z3,z4,_⟩:=gG hz
  split at h
  ·rename_i k hk
   split at h
   ·rename_i cs hf
    simp at h;subst h
    have hpl:PARTS.toList.length=parts.length:=by simp [hl]
    obtain ⟨Cs',e1,e2,_,_⟩:=HR (σ:=σ) _ parts PARTS.toList z.cells cs Z.cells hf (z3 σ) hpl.symm (fun i n x N X h1 h2=>hp i n x N X h1 (by simpa using h2)) z4
    refine ⟨.agg Cs',fun w=>?_,VR.agg_iff.2 ⟨_,rfl,e2⟩⟩
    simp only [Instr.build,Sem.run_bind,z1,Result.andThen_ok,aD hu,aS hk]
    rw [e1];rfl
   ·simp at h
  ·simp at h
 ·simp at h
theorem vQ {y:AV} {Y:Value} {n:Nat} (h:oM y=some n) (hy:VR σ y Y):(Builtin.lenOf Y).run P w=.ok n w/\(∀ a l c,Y=.slice a l c->l=n):=by
 unfold oM at h
 split at h
 ·cases hy;simp at h;subst h;exact ⟨rfl,fun a l c e=>by cases e;rfl⟩
 ·cases hy;simp at h;subst h;exact ⟨rfl,fun a l c e=>by cases e;rfl⟩
 ·cases hy;simp at h;subst h;exact ⟨rfl,fun a l c e=>by cases e;rfl⟩
 ·obtain ⟨bs,rfl,hb⟩:=bW hy
  simp at h;subst h
  rw [<-oJ hb]
  exact ⟨rfl,fun a l c e=>by cases e⟩
 ·simp at h
theorem aHb {b k:Nat} (hmu:∀ off V,σ.m b off=some V->w.cell? ⟨b,off,none⟩=some V):∀ (xs:List AV) (o:Nat),(∀ x∈xs,x.cells.length=k)->
 (∀ i j x c V,xs[i]?=some x->x.cells[j]?=some c->σ.m b (o+i*k+j)=some V->VR σ c V)->(∀ i j,i<xs.length->j<k->(σ.m b (o+i*k+j)).isSome=true)->
 ∃ vs:List Value,VRs σ (xs.flatMap AV.cells) vs/\vs.length=xs.length*k/\∀ (q:Nat) v,vs[q]?=some v->w.cell? ⟨b,o+q,none⟩=some v:=by
 intro xs
 induction xs with
 | nil=>intro o _ _ _;exact ⟨[],VRs.nil σ,by simp,by simp⟩
 | cons x xs ih=>
   intro o h1 h2 h3
   obtain ⟨vs,e1,e2,e3⟩:=ih (o+k) (fun y hy=>h1 y (by simp [hy]))
    (fun i j y c V hy hc hV=>h2 (i+1) j y c V (by simpa using hy) hc (by rw [<-hV];congr 1;rw [Nat.add_mul];omega))
    (fun i j hi hj=>by
      have:=h3 (i+1) j (by simp;omega) hj
      rw [<-this];congr 2;rw [Nat.add_mul];omega)
   have hk:x.cells.length=k:=h1 x (by simp)
   have hsome:∀ j,j<k->(σ.m b (o+j)).isSome=true:=fun j hj=>by
    have:=h3 0 j (by simp) hj
    simpa using this
   let us:List Value:=(List.range k).map fun j=>(σ.m b (o+j)).getD undef
   have hus:∀ (j:Nat) v,us[j]?=some v->j<k/\σ.m b (o+j)=some v:=by
    intro j v hv
    have hj:j<k:=by
     rcases Nat.lt_or_ge j k with h' | h'
     ·exact h'
     ·rw [List.getElem?_eq_none (by simpa [us] using h')]at hv;cases hv
    obtain ⟨V,hV⟩:=Option.isSome_iff_exists.1 (hsome j hj)
    simp [us,hj,hV]at hv
    exact ⟨hj,by rw [hV,hv]⟩
   refine ⟨us++vs,?_,by simp [us,e2,Nat.add_mul];omega,fun q v hv=>?_⟩
   ·rw [List.flatMap_cons]
    refine VRs.append ⟨by simp [us,hk],fun j c V hc hV=>?_⟩ e1
    obtain ⟨hj,hm⟩:=hus j V hV
    exact h2 0 j x c V rfl hc (by simpa using hm)
   ·by_cases hq:q<k
    ·rw [List.getElem?_append_left (by simpa [us] using hq)]at hv
     exact hmu _ _ (hus q v hv).2
    ·rw [List.getElem?_append_right (by simp [us];omega)]at hv
     have:=e3 (q-us.length) v hv
     rw [<-this];congr 2;simp [us];omega
theorem oH {k n:Nat} {y:AV} {Y:Value} {l:List AV} (h:Rel σ S w) (hl:dI S k n y=some l) (hy:VR σ y Y):
 ∃ Ls:List Value,(∀ w',w'.heap=w.heap->(Builtin.firstCells k n Y).run P w'=.ok Ls.toArray w')/\VRs σ l Ls/\l.length=n*k/\(∀ (c:List AV),y=.fz c true->c.length=n->l.all AV.isCell=true):=by
 unfold dI at hl
 split at hl
 ·rename_i id g off len cap
  rw [jQ]at hl
  split at hl
  ·rename_i hn
   split at hl
   ·rename_i g' m c hx
    cases hc:(Nat.beq g g'&&Nat.ble (off+n*k) m) with
    | false=>simp [hc]at hl
    | true=>
      simp only [hc,cond_true]at hl
      simp only [Bool.and_eq_true,Nat.beq_eq,Nat.ble_eq]at hc
      obtain ⟨rfl,hle⟩:=hc
      obtain ⟨hlen,hget⟩:=Tr.row_spec c _ _ _ hl
      obtain ⟨b,base,arr,el,fr,h1,h2,h3,h4,h5⟩:=h.cells hx
      cases hy with
      | sl _ _ _ _ _ b' base' sz' C hs hC hcap=>
        rw [h1]at hs
        obtain ⟨rfl,rfl,rfl⟩:b=b'/\base=base'/\arr.size=sz':=by simpa using hs
        let vs:List Value:=(List.range (n*k)).map fun j=>arr.getD (base+off+j) undef
        have hv:∀ (j:Nat) v,vs[j]?=some v->j<n*k/\arr[base+off+j]?=some v:=by
         intro j v hv
         have hj:j<n*k:=by
          rcases Nat.lt_or_ge j (n*k) with h' | h'
          ·exact h'
          ·rw [List.getElem?_eq_none (by simpa [vs] using h')]at hv;cases hv
         have hb:base+off+j<arr.size:=by omega
         simp [vs,hj,Array.getD_eq_getD_getElem?,Array.getElem?_eq_getElem hb]at hv
         exact ⟨hj,by rw [Array.getElem?_eq_getElem hb,hv]⟩
        refine ⟨vs,?_,⟨by simp [vs,hlen],fun j x X hx' hX=>?_⟩,hlen,fun c hc=>by cases hc⟩
        ·intro w' hw'
         have:=gH (P:=P) (w:=w') b vs (base+off) 0 #[] (fun j v hj=>by
          have:=(hv j v hj).2
          simp [World.cell?,hw',h2,this])
         simp only [Builtin.firstCells,loadCells]
         rw [show n*k=vs.length by simp [vs],this];simp
        ·obtain ⟨hj,hX'⟩:=hv j X hX
         rw [<-hget j hj]at hx'
         obtain ⟨V,e1,e2⟩:=h4 (off+j) x (by omega) hx'
         rw [<-Nat.add_assoc,hX']at e1
         cases e1;exact e2
   ·simp at hl
  ·simp at hl
 ·rw [dU]at hl
  split at hl
  ·rename_i hn;subst hn
   simp at hl;subst hl
   cases hy
   exact ⟨[],fun w' _=>by simp [Builtin.firstCells],VRs.nil σ,by simp,fun c hc=>by cases hc⟩
  ·simp at hl
 ·rename_i xs clip
  rw [jQ]at hl
  split at hl
  ·rename_i hn
   cases hc:((xs.take n).all (fun x=>Nat.beq x.cells.length k)&&((xs.take n).flatMap AV.cells).all AV.isCell) with
   | false=>simp only [hc,cond_false,reduceCtorEq]at hl
   | true=>
     simp only [hc,cond_true,Option.some.injEq]at hl
     subst hl
     simp only [Bool.and_eq_true]at hc
     cases hy with
     | fz _ _ a C b o k' h1 h2 h3 h4 h5 h6=>
       have hk:∀ x∈xs.take n,x.cells.length=k:=fun x hx=>by
        have:=List.all_eq_true.1 hc.1 x hx
        simpa using this
       by_cases hx0:n=0
       ·subst hx0
        refine ⟨[],?_,by simpa using VRs.nil σ,by simp,fun _ _ _=>hc.2⟩
        intro w' _
        simp [Builtin.firstCells,loadCells,loadCellsFrom]
       ·have hlen:(xs.take n).length=n:=by simp;omega
        have hkk:k'=k:=by
         have hx:xs[0]'(by omega)∈xs.take n:=by
          have:(xs.take n)[0]'(by omega)∈xs.take n:=List.getElem_mem _
          simpa using this
         rw [<-h4 _ (List.mem_of_mem_take hx),hk _ hx]
        subst hkk
        have ha:=h1 (by omega)
        subst ha
        have hget:∀ (i:Nat) x,(xs.take n)[i]?=some x->xs[i]?=some x:=by
         intro i x hi
         rw [List.getElem?_take]at hi
         split at hi
         ·exact hi
         ·cases hi
        obtain ⟨vs,e1,e2,e3⟩:=aHb (w:=w) (σ:=σ) (fun off V hV=>(h.mu b off V hV).1) (xs.take n) o hk
         (fun i j x c V hx hc hV=>h5 i j x c V (hget i x hx) hc hV) (fun i j hi hj=>h6 i j (by omega) hj)
        refine ⟨vs,?_,e1,by rw [e1.1,e2,hlen],fun _ _ _=>hc.2⟩
        intro w' hw'
        have:=gH (P:=P) (w:=w') b vs o 0 #[] (fun j v hj=>by
         have:=e3 j v hj
         rw [<-this];simp [World.cell?,hw'])
        simp only [Builtin.firstCells,loadCells]
        rw [show n*k'=vs.length by rw [e2,hlen],this];simp
  ·simp at hl
 ·rename_i s
  cases hc:(Nat.ble n s.length&&Nat.beq k 1) with
  | false=>simp [hc]at hl
  | true=>
    simp only [hc,cond_true,Option.some.injEq]at hl
    subst hl
    simp only [Bool.and_eq_true,Nat.ble_eq,Nat.beq_eq]at hc
    obtain ⟨hn,rfl⟩:=hc
    obtain ⟨bs,rfl,hb⟩:=bW hy
    subst hb
    have hdat:(bs.extract 0 n).data.toList=bs.data.toList.take n:=by rw [Lib.extract_data];simp
    refine ⟨(bs.data.toList.take n).map fun b=>Value.int .u8 b.toNat,?_,?_,?_,fun c hc=>by cases hc⟩
    ·intro w' _
     simp only [Builtin.firstCells,Sem.run_pure]
     congr 1
     apply Array.toList_inj.1
     rw [Array.toList_map,hdat]
    ·rw [eR,<-List.map_take,List.map_map]
     exact VRs.map _ _ _ fun x _=>.int _ _
    ·simp only [eR,List.length_map,List.length_take]
     simp at hn ⊢
     omega
 ·simp at hl
theorem WN (need:Nat):∀ (r c:Nat),Builtin.growBy need r c<=max c (need+(need+768)/4):=by
 intro r
 induction r with
 | zero=>intro c;simp [Builtin.growBy];omega
 | succ r ih=>
   intro c
   simp only [Builtin.growBy]
   split
   ·omega
   ·rename_i h
    have:=ih (c+(c+768)/4)
    omega
theorem qD {need old:Nat} (h:old<need):Builtin.nextslicecap need old<=2*need+1024:=by
 unfold Builtin.nextslicecap
 split
 ·omega
 ·split
  ·omega
  ·have:=WN need 4 old
   omega
theorem lX (z:Array Value) (n:Nat):(Builtin.zeroCells z n).size=n*z.size:=by simp [Builtin.zeroCells]
theorem append_grow {t e u:TypeId} {d:TypeDesc} {k by_ n sLen sCap:Nat} {z:AV} {base:Option Addr} {Y:Value} {OLD NEW:List Value} (hu:P.underlying t=some (.slice e)) (hk:qE P e=some k) (hby:mA P e=some by_)
 (hz:aX P e=some z) (hzk:z.cells.length=k) (hd:P.underlying u=some d) (hdi:∀ k,d≠.int k) (hlen:(Builtin.lenOf Y).run P w=.ok n w)
 (hnew:∀ w',w'.heap=w.heap->(Builtin.firstCells k n Y).run P w'=.ok NEW.toArray w') (hold:∀ w',w'.heap=w.heap->(Builtin.firstCells k sLen (.slice base sLen sCap)).run P w'=.ok OLD.toArray w') (hroom:eD (sLen+n) by_=true) (hgt:sCap<sLen+n)
 (hOLD:OLD.length=sLen*k) (hNEW:NEW.length=n*k):
 ∃ (C:Nat) (arr:Array Value),(Builtin.append_ #[t,u] t #[.slice base sLen sCap,Y]).run P w=.ok (.slice (some ⟨w.heap.size,0,none⟩) (sLen+n) C) (w.drew.alloc (.cells arr e))/\sLen+n<=C/\arr.size=C*k/\
   ∀ (i:Nat) V,(OLD++NEW)[i]?=some V->arr[i]?=some V:=by
 obtain ⟨Z,z1,_,z3,_,_⟩:=gG hz
 obtain ⟨i,hi1,hi2⟩:=pL hby w
 have hZk:Z.cells.size=k:=by
  have:=(z3 Sg.nil).1
  rw [hzk]at this;simpa using this.symm
 simp only [eD,Bool.and_eq_true,Nat.ble_eq,Nat.blt_eq]at hroom
 obtain ⟨hr1,hr2⟩:=hroom
 have hneed:¬ (sLen+n<=sCap):=by omega
 have hmax:¬ (((sLen+n:Nat):Int) > IntKind.i64.max):=by simp [IntKind.max,IntKind.signed,IntKind.bits];omega
 have hcap:=qD hgt
 have hbytes:¬ (Builtin.nextslicecap (sLen+n) sCap*by_ > 2 ^ 48):=by
  have:Builtin.nextslicecap (sLen+n) sCap*by_<=(2*(sLen+n)+1024)*by_:=Nat.mul_le_mul_right _ hcap
  omega
 have hdm:(match (generalizing:=false) d with | TypeDesc.int _=>true | _=>false)=false:=by cases d<;>first | rfl | exact absurd rfl (hdi _)
 let newCap:=(sLen+n)+(w.tape w.drawn (.appendCap (sLen+n) sCap e))%(2 ^ 63-(sLen+n))
 refine ⟨newCap,OLD.toArray++(NEW.toArray++Builtin.zeroCells Z.cells (newCap-(sLen+n))),?_,by omega,?_,fun i V hV=>?_⟩
 ·have hti:∀ w',(typeInfo e).run P w'=.ok i w':=fun w'=>by
   unfold mA at hby
   cases hie:P.info? e with
   | none=>simp [hie]at hby
   | some j=>
     rw [cH hie]at hi1 ⊢
     cases hi1;rfl
  have ho:=hold w.drew rfl
  have hn:=hnew w.drew rfl
  have hb2:¬ (281474976710656<Builtin.nextslicecap (sLen+n) sCap*by_):=by simpa using hbytes
  have hm3:¬ ((9223372036854775807:Int)<(sLen:Int)+(n:Int)/\by_=0):=by omega
  simp [Builtin.append_,aD hu,aS hk,aD hd,hdm,hlen,hneed,hm3,hti,hi2,hb2,Question.forced,Question.cut,z1,ho,hn,fQ,newCap]
 ·simp [lX,hOLD,hNEW,hZk,<-Nat.add_mul];congr 1;omega
 ·have hlt:i<(OLD++NEW).length:=by
   rcases Nat.lt_or_ge i (OLD++NEW).length with h' | h'
   ·exact h'
   ·rw [List.getElem?_eq_none h']at hV;cases hV
  rw [<-Array.append_assoc,Array.getElem?_append_left (by simpa using hlt),<-hV]
  simp
def CH (σ:Sg) (S:Sto) (w:World) (run:Value->World->Prop):ORes->Prop
 | .val v=>∃ V w',run V w'/\VR σ v V/\Quiet w w'
 | .val' v S'=>∃ τ V w',run V w'/\VR τ v V/\Stp σ S w τ S' w'
 | _=>False
theorem sN {k by_ len:Nat} {old new:List AV} {OLD NEW:List Value} {r:ORes} {e t u:TypeId} {X Y:Value} {C:Nat} {arr:Array Value} (h:Rel σ S w) (hf:eS S k by_ old new len=some r)
 (hold:VRs σ old OLD) (hnew:VRs σ new NEW) (hrun:(Builtin.append_ #[t,u] t #[X,Y]).run P w=.ok (.slice (some ⟨w.heap.size,0,none⟩) len C) (w.drew.alloc (.cells arr e)))
 (hC:len<=C) (harr:arr.size=C*k) (hsize:OLD.length+NEW.length<=arr.size) (hget:∀ (i:Nat) V,(OLD++NEW)[i]?=some V->arr[i]?=some V):
 CH σ S w (fun V w'=>(Builtin.append_ #[t,u] t #[X,Y]).run P w=.ok V w') r:=by
 unfold eS at hf
 cases hr:eD len by_ with
 | false=>simp [hr]at hf
 | true=>
   simp only [hr,cond_true]at hf
   split at hf
   ·rename_i id S' hn
    simp at hf;subst hf
    obtain ⟨τ,h1,h2⟩:=sO (w:=w.drew) e (0,0) (h.world rfl) hn (hold.append hnew) (by simpa using hsize) hget (fun o _=>by omega)
    refine ⟨τ,_,_,hrun,?_,(Stp.drew h).trans h1⟩
    have:=VR.sl (σ:=τ) id 0 0 len (.room k) w.heap.size 0 arr.size C h2 hC (by show 0+0+C*k<=arr.size;omega)
    exact this
   ·simp at hf
theorem kE {t e u:TypeId} {d:TypeDesc} {k n sLen sCap:Nat} {base:Option Addr} {Y:Value} {NEW:List Value} {w':World} (hu:P.underlying t=some (.slice e)) (hk:qE P e=some k)
 (hd:P.underlying u=some d) (hdi:∀ k,d≠.int k) (hlen:(Builtin.lenOf Y).run P w=.ok n w) (hnew:(Builtin.firstCells k n Y).run P w=.ok NEW.toArray w) (hle:sLen+n<=sCap)
 (hst:∀ a,base=some a->(storeCells (a.add (sLen*k)) NEW).run P w=.ok () w') (hno:base=none->w'=w):
 (Builtin.append_ #[t,u] t #[.slice base sLen sCap,Y]).run P w=.ok (.slice base (sLen+n) sCap) w':=by
 have hdm:(match (generalizing:=false) d with | TypeDesc.int _=>true | _=>false)=false:=by cases d<;>first | rfl | exact absurd rfl (hdi _)
 cases base with
 | none=>
   obtain rfl:=hno rfl
   simp [Builtin.append_,aD hu,aS hk,aD hd,hdm,hlen,hle,hnew]
 | some a=>
   have:=hst a rfl
   simp [Builtin.append_,aD hu,aS hk,aD hd,hdm,hlen,hle,hnew,this]
theorem PJ {t u:TypeId} {d:TypeDesc} {x y:AV} {X Y:Value} {r:ORes} (h:Rel σ S w) (ha:vW P S t x y=some r) (hx:VR σ x X) (hy:VR σ y Y) (hd:P.underlying u=some d) (hdi:∀ k,d≠.int k):
 CH σ S w (fun V w'=>(Builtin.append_ #[t,u] t #[X,Y]).run P w=.ok V w') r:=by
 unfold vW at ha
 split at ha
 ·rename_i e hu
  split at ha
  ·rename_i k by_ z n hk hby hz hlen
   obtain ⟨hlenr,_⟩:=vQ (P:=P) (w:=w) hlen hy
   split at ha
   ·simp at ha
   ·rename_i new hnew
    obtain ⟨NEW,n1,n2,n3,_⟩:=oH (P:=P) h hnew hy
    have hN:NEW.length=n*k:=by rw [<-n2.1];exact n3
    cases hc:(Nat.beq z.cells.length k&&new.all AV.isCell) with
    | false=>simp [hc]at ha
    | true=>
      simp only [hc,cond_true]at ha
      simp only [Bool.and_eq_true,Nat.beq_eq]at hc
      obtain ⟨hzk,hall⟩:=hc
      have hgrow:=fun (base:Option Addr) (sLen sCap:Nat) (OLD:List Value) (hold:∀ w',w'.heap=w.heap->(Builtin.firstCells k sLen (.slice base sLen sCap)).run P w'=.ok OLD.toArray w') (hroom:eD (sLen+n) by_=true) (hgt:sCap<sLen+n) (hO:OLD.length=sLen*k)=>
       append_grow (P:=P) (w:=w) (u:=u) hu hk hby hz hzk hd hdi hlenr n1 hold hroom hgt hO hN
      split at ha
      ·-- nils
       cases hx with
       | nils=>
         rw [dU]at ha
         split at ha
         ·rename_i hn0;subst hn0
          simp at ha;subst ha
          refine ⟨_,w,kE hu hk hd hdi hlenr (n1 w rfl) (Nat.le_refl _) (fun a e=>by cases e) (fun _=>rfl),.nils,Quiet.refl w⟩
         ·rename_i hn0
          have hroom:eD n by_=true:=by
           unfold eS at ha
           cases hr:eD n by_ with
           | true=>rfl
           | false=>simp [hr]at ha
          obtain ⟨C,arr,g1,g2,g3,g4⟩:=hgrow none 0 0 [] (fun w' _=>by simp [Builtin.firstCells]) (by simpa using hroom) (by omega) (by simp)
          rw [Nat.zero_add]at g1 g2
          exact sN h ha (VRs.nil σ) n2 g1 g2 g3 (by simp [hN,g3];exact Nat.mul_le_mul_right _ g2) g4
      ·-- fz
       rename_i xs
       cases hx with
       | fz _ _ a C b o k' h1 h2 h3 h4 h5 h6=>
         have hC:=h3 rfl
         subst hC
         rw [dU]at ha
         split at ha
         ·rename_i hn0;subst hn0
          simp at ha;subst ha
          have hnil:NEW=[]:=List.eq_nil_of_length_eq_zero (by omega)
          refine ⟨_,w,kE hu hk hd hdi hlenr (n1 w rfl) (by omega) (fun a e=>by subst hnil;simp [storeCells]) (fun _=>rfl),.fz _ _ a _ b o k' h1 h2 (fun _=>rfl) h4 h5 h6,Quiet.refl w⟩
         ·rename_i hn0
          split at ha
          ·rename_i old hold
           have hxx:VR σ (.fz xs true) (.slice a xs.length xs.length):=.fz _ _ a _ b o k' h1 h2 (fun _=>rfl) h4 h5 h6
           obtain ⟨OLD,o1,o2,o3,_⟩:=oH (P:=P) h hold hxx
           have hO:OLD.length=xs.length*k:=by rw [<-o2.1];exact o3
           have hroom:eD (xs.length+n) by_=true:=by
            unfold eS at ha
            cases hr:eD (xs.length+n) by_ with
            | true=>rfl
            | false=>simp [hr]at ha
           obtain ⟨C,arr,g1,g2,g3,g4⟩:=hgrow a xs.length xs.length OLD o1 hroom (by omega) hO
           exact sN h ha o2 n2 g1 g2 g3 (by rw [g3,hO,hN,<-Nat.add_mul];exact Nat.mul_le_mul_right _ g2) g4
          ·simp at ha
      ·-- sl,the capacity known
       rename_i id g off len c
       rw [jQ]at ha
       split at ha
       ·rename_i hle
        split at ha
        ·rename_i g' m cs hget
         cases hc2:(Nat.beq g g'&&Nat.ble (off+c*k) m) with
         | false=>simp [hc2]at ha
         | true=>
           simp only [hc2,cond_true,Option.some.injEq]at ha
           subst ha
           simp only [Bool.and_eq_true,Nat.beq_eq,Nat.ble_eq]at hc2
           obtain ⟨rfl,hm⟩:=hc2
           cases hx with
           | sl _ _ _ _ _ b base sz C hs hl hcap=>
             have hCc:C=c:=hcap
             subst hCc
             have hmul:(len+n)*k<=C*k:=Nat.mul_le_mul_right _ hle
             rw [Nat.add_mul]at hmul
             obtain ⟨w',e1,e2⟩:=vT (P:=P) (cs:=new) (off:=off+len*k) (o:=base+off+len*k) h hget ⟨_,hs⟩ (by rw [n3];omega) n2 hall (by omega)
             refine ⟨σ,_,w',kE hu hk hd hdi hlenr (n1 w rfl) hle (fun a e=>by cases e;rw [cS];exact e1) (fun e=>by cases e),.sl _ _ _ _ _ b base sz C hs hle rfl,e2⟩
        ·simp at ha
       ·rename_i hgt
        split at ha
        ·rename_i old hold
         obtain ⟨OLD,o1,o2,o3,_⟩:=oH (P:=P) h hold hx
         have hO:OLD.length=len*k:=by rw [<-o2.1];exact o3
         cases hx with
         | sl _ _ _ _ _ b base sz C hs hl hcap=>
           have hCc:C=c:=hcap
           subst hCc
           have hroom:eD (len+n) by_=true:=by
            unfold eS at ha
            cases hr:eD (len+n) by_ with
            | true=>rfl
            | false=>simp [hr]at ha
           obtain ⟨C',arr,g1,g2,g3,g4⟩:=hgrow (some ⟨b,base+off,none⟩) len C OLD o1 hroom (by omega) hO
           exact sN h ha o2 n2 g1 g2 g3 (by rw [g3,hO,hN,<-Nat.add_mul];exact Nat.mul_le_mul_right _ g2) g4
        ·simp at ha
      ·-- sl,with room
       rename_i id g off len r'
       split at ha
       ·rename_i g' m cs hget
        cases hc2:(Nat.beq g g'&&Nat.beq k r'&&Nat.beq (off+len*k) m&&eD (len+n) by_) with
        | false=>simp [hc2]at ha
        | true=>
          simp only [hc2,cond_true]at ha
          simp only [Bool.and_eq_true,Nat.beq_eq]at hc2
          obtain ⟨⟨⟨rfl,rfl⟩,hm⟩,hroom⟩:=hc2
          cases hx with
          | sl _ _ _ _ _ b base sz C hs hl hcap=>
            have hroomC:base+off+C*k<=sz:=hcap
            obtain ⟨b',base',arr,el,fr,a1,a2,a3,a4,a5⟩:=h.cells hget
            rw [a1]at hs
            obtain ⟨rfl,rfl,rfl⟩:b'=b/\base'=base/\arr.size=sz:=by simpa using hs
            have key:∀ (c':Tr AV) (m':Nat),((off=0/\c'=cs.lay m new/\m'=m+n*k)∨(∃ old,cs.row off (len*k)=some old/\c'=Tr.leaf.lay 0 (old++new)/\m'=(len+n)*k))->
             m'=(len+n)*k/\∀ i a,i<m'->c'.get i=some a->(∃ V,i<len*k/\arr[base'+off+i]?=some V/\VR σ a V)∨(∃ V,len*k<=i/\NEW[i-len*k]?=some V/\VR σ a V):=by
             intro c' m' hcm
             rcases hcm with ⟨h0,rfl,rfl⟩ | ⟨old,hrow,rfl,rfl⟩
             ·subst h0
              refine ⟨by rw [Nat.add_mul];omega,fun i a hi hia=>?_⟩
              rw [Tr.get_lay]at hia
              split at hia
              ·rename_i hr
               obtain ⟨V,hV,hVR⟩:=n2.get hia
               exact .inr ⟨V,by omega,by rw [<-hV];congr 1;omega,hVR⟩
              ·rename_i hr
               have hi':i<m:=by rw [n3]at hr;omega
               obtain ⟨V,e1,e2⟩:=a4 i a hi' hia
               exact .inl ⟨V,by omega,by simpa using e1,e2⟩
             ·obtain ⟨hol,hog⟩:=Tr.row_spec cs _ _ _ hrow
              refine ⟨rfl,fun i a hi hia=>?_⟩
              rw [Tr.get_lay]at hia
              simp only [Nat.zero_add,Nat.zero_le,true_and,List.length_append,hol,n3,Nat.sub_zero]at hia
              rw [Nat.add_mul]at hi
              rw [if_pos hi]at hia
              by_cases hik:i<len*k
              ·rw [List.getElem?_append_left (by omega),<-hog i hik]at hia
               obtain ⟨V,e1,e2⟩:=a4 (off+i) a (by omega) hia
               exact .inl ⟨V,hik,by rw [Nat.add_assoc];exact e1,e2⟩
              ·rw [List.getElem?_append_right (by omega),hol]at hia
               obtain ⟨V,hV,hVR⟩:=n2.get hia
               exact .inr ⟨V,by omega,hV,hVR⟩
            obtain ⟨c',m',hcm,hr⟩:∃ c' m',((off=0/\c'=cs.lay m new/\m'=m+n*k)∨(∃ old,cs.row off (len*k)=some old/\c'=Tr.leaf.lay 0 (old++new)/\m'=(len+n)*k))/\r=.val' (.sl id (g+1) 0 (len+n) (.room k)) (S.put id (.cells (g+1) m' c')):=by
             rw [dU]at ha
             split at ha
             ·rename_i h0
              simp at ha;exact ⟨_,_,.inl ⟨h0,rfl,rfl⟩,ha.symm⟩
             ·split at ha
              ·rename_i old hrow
               simp at ha;exact ⟨_,_,.inr ⟨old,hrow,rfl,rfl⟩,ha.symm⟩
              ·simp at ha
            subst hr
            obtain ⟨hm',hkey⟩:=key c' m' hcm
            have hnone:σ id (g+1)=none:=by
             cases hcc:σ id (g+1) with
             | none=>rfl
             | some v=>have:=h.gen id _ _ v hget hcc;simp only [cN]at this;omega
            have hle':m'<=C*k∨C<len+n:=by
             by_cases hcc:len+n<=C
             ·exact .inl (by rw [hm'];exact Nat.mul_le_mul_right _ hcc)
             ·exact .inr (by omega)
            by_cases hin:len+n<=C
            ·have hmul:(len+n)*k<=C*k:=Nat.mul_le_mul_right _ hin
             rw [Nat.add_mul]at hmul
             obtain ⟨w',arr',e1,e2,e3,e4⟩:=rO (P:=P) b' el fr NEW (base'+off+len*k) 0 w arr a2 (by rw [hN];omega) (yP n2 hall) a5
             simp only [Nat.add_zero]at e4
             have hst:=EH (w':=w') (y:=.cells (g+1) m' c') (b':=b') (base':=base'+off) (sz':=arr.size) h hget a1 rfl e2.at_
              (.cells _ _ _ arr' el fr e3 (by rw [hm',Nat.add_mul];omega) (fun i a hi hia=>by
                rcases hkey i a hi hia with ⟨V,q1,q2,q3⟩ | ⟨V,q1,q2,q3⟩
                ·refine ⟨V,?_,q3.mono (Sg.le_upd _ hnone)⟩
                 rw [e4,if_neg (by omega)];exact q2
                ·refine ⟨V,?_,q3.mono (Sg.le_upd _ hnone)⟩
                 rw [e4,if_pos (by rw [hN,hm',Nat.add_mul]at *;omega),<-q2];congr 1;omega) a5)
              (.inl rfl) (by rw [e2.size];exact Nat.le_refl _) (fun c _ hc=>e2.rest c hc) e2.os e2.out e2.tape
             refine ⟨_,_,w',kE hu hk hd hdi hlenr (n1 w rfl) hin (fun a e=>by cases e;rw [cS];exact e1) (fun e=>by cases e),?_,hst⟩
             have:=VR.sl (σ:=σ.upd id (g+1) (b',base'+off,arr.size)) id (g+1) 0 (len+n) (.room k) b' (base'+off) arr.size C (Sg.upd_same _ _ _ _) hin (by show base'+off+0+C*k<=arr.size;omega)
             exact this
            ·let OLD:List Value:=(List.range (len*k)).map fun j=>arr.getD (base'+off+j) undef
             have hOv:∀ (j:Nat) v,OLD[j]?=some v->j<len*k/\arr[base'+off+j]?=some v:=by
              intro j v hv
              have hj:j<len*k:=by
               rcases Nat.lt_or_ge j (len*k) with h' | h'
               ·exact h'
               ·rw [List.getElem?_eq_none (by simpa [OLD] using h')]at hv;cases hv
              have hb:base'+off+j<arr.size:=by omega
              simp [OLD,hj,Array.getD_eq_getD_getElem?,Array.getElem?_eq_getElem hb]at hv
              exact ⟨hj,by rw [Array.getElem?_eq_getElem hb,hv]⟩
             have hO:OLD.length=len*k:=by simp [OLD]
             obtain ⟨C',arr',g1,g2,g3,g4⟩:=hgrow (some ⟨b',base'+off,none⟩) len C OLD (fun w' hw'=>by
              have:=gH (P:=P) (w:=w') b' OLD (base'+off) 0 #[] (fun j v hj=>by
               have:=(hOv j v hj).2
               simp [World.cell?,hw',a2,this])
              simp only [Builtin.firstCells,loadCells]
              rw [show len*k=OLD.length from hO.symm,this];simp) hroom (by omega) hO
             have hsz:(len+n)*k<=arr'.size:=by rw [g3];exact Nat.mul_le_mul_right _ g2
             have hst:=EH (w:=w.drew) (w':=w.drew.alloc (.cells arr' e)) (y:=.cells (g+1) m' c') (b':=w.heap.size) (base':=0) (sz':=arr'.size) (h.world rfl) hget a1 rfl (nJ w.drew _)
              (.cells _ _ _ arr' e (0,0) rfl (by omega) (fun i a hi hia=>by
                rw [Nat.zero_add]
                rcases hkey i a hi hia with ⟨V,q1,q2,q3⟩ | ⟨V,q1,q2,q3⟩
                ·refine ⟨V,g4 i V ?_,q3.mono (Sg.le_upd _ hnone)⟩
                 rw [List.getElem?_append_left (by omega)]
                 have:OLD[i]?=some (arr.getD (base'+off+i) undef):=by simp [OLD,q1]
                 rw [this,Array.getD_eq_getD_getElem?,q2];rfl
                ·refine ⟨V,g4 i V ?_,q3.mono (Sg.le_upd _ hnone)⟩
                 rw [List.getElem?_append_right (by omega),hO];exact q2) (fun o _=>by omega))
              (.inr (Nat.le_refl _)) (by simp) (fun c hc _=>kZ w.drew _ hc) rfl rfl rfl
             refine ⟨_,_,_,g1,?_,(Stp.drew h).trans hst⟩
             have:=VR.sl (σ:=σ.upd id (g+1) (w.heap.size,0,arr'.size)) id (g+1) 0 (len+n) (.room k) w.heap.size 0 arr'.size C' (Sg.upd_same _ _ _ _) g2 (by show 0+0+C'*k<=arr'.size;omega)
             exact this
       ·simp at ha
      ·-- sl,with room for at least c
       rename_i id g off len r' c
       rw [jQ]at ha
       split at ha
       ·rename_i hle
        split at ha
        ·rename_i g' m cs hget
         cases hc2:(Nat.beq g g'&&Nat.beq k r'&&Nat.ble (off+c*k) m) with
         | false=>simp [hc2]at ha
         | true=>
           simp only [hc2,cond_true,Option.some.injEq]at ha
           subst ha
           simp only [Bool.and_eq_true,Nat.beq_eq,Nat.ble_eq]at hc2
           obtain ⟨⟨rfl,rfl⟩,hm⟩:=hc2
           cases hx with
           | sl _ _ _ _ _ b base sz C hs hl hcap=>
             obtain ⟨hcC,hroomC⟩:c<=C/\base+off+C*k<=sz:=hcap
             have hmul:(len+n)*k<=c*k:=Nat.mul_le_mul_right _ hle
             rw [Nat.add_mul]at hmul
             have hle':len+n<=C:=by omega
             obtain ⟨w',e1,e2⟩:=vT (P:=P) (cs:=new) (off:=off+len*k) (o:=base+off+len*k) h hget ⟨_,hs⟩ (by rw [n3];omega) n2 hall (by omega)
             refine ⟨σ,_,w',kE hu hk hd hdi hlenr (n1 w rfl) hle' (fun a e=>by cases e;rw [cS];exact e1) (fun e=>by cases e),.sl _ _ _ _ _ b base sz C hs hle' (pN hroomC hcC),e2⟩
        ·simp at ha
       ·simp at ha
      ·simp at ha
  ·simp at ha
 ·simp at ha
end
end Go.Abs
/-
 The abstract machine: copies,conversions,maps,assertions.
-/
namespace Go.Abs
section
variable {P:Program} {σ:Sg} {S:Sto} {w:World}
theorem aCn {t u:TypeId} {x y:AV} {X Y:Value} {r:ORes} (h:Rel σ S w) (ha:aCs P S t x y=some r) (hx:VR σ x X) (hy:VR σ y Y):
 CH σ S w (fun V w'=>∀ (ts:Array TypeId),ts[0]?=some t->(Builtin.copy_ ts u #[X,Y]).run P w=.ok V w') r:=by
 unfold aCs at ha
 split at ha
 ·rename_i e hu
  split at ha
  ·rename_i k dn sn hk hdn hsn
   obtain ⟨_,hdl⟩:=vQ (P:=P) (w:=w) hdn hx
   obtain ⟨hslen,_⟩:=vQ (P:=P) (w:=w) hsn hy
   split at ha
   ·simp at ha
   ·rename_i new hnew
    obtain ⟨NEW,n1,n2,n3,_⟩:=oH (P:=P) h hnew hy
    have n1w:=n1 w rfl
    split at ha
    ·cases hx
     simp at ha;subst ha
     have hd0:(0:Nat)=dn:=hdl none 0 0 rfl
     subst hd0
     have hmin:Nat.min sn 0=0:=by simp
     rw [hmin]at n1w
     refine ⟨.int .i64 0,w,fun ts hts=>?_,.int _ _,Quiet.refl w⟩
     simp [Builtin.copy_,hts,aD hu,hslen,aS hk,n1w,goInt]
    ·rename_i id g off len cap
     split at ha
     ·rename_i g' m cs hget
      cases hc:(Nat.beq g g'&&Nat.ble (off+Nat.min sn dn*k) m&&new.all AV.isCell) with
      | false=>simp only [hc,cond_false,reduceCtorEq]at ha
      | true=>
        simp only [hc,cond_true,Option.some.injEq]at ha
        subst ha
        simp only [Bool.and_eq_true,Nat.beq_eq,Nat.ble_eq]at hc
        obtain ⟨⟨rfl,hm⟩,hall⟩:=hc
        cases hx with
        | sl _ _ _ _ _ b base sz C hs hl hcap=>
          have hd0:len=dn:=hdl _ _ _ rfl
          subst hd0
          obtain ⟨w',e1,e2⟩:=vT (P:=P) (cs:=new) (off:=off) (o:=base+off) h hget ⟨_,hs⟩ (by rw [n3];exact hm) n2 hall rfl
          refine ⟨σ,.int .i64 (Nat.min sn len:Nat),w',fun ts hts=>?_,.int _ _,e2⟩
          simp [Builtin.copy_,hts,aD hu,hslen,aS hk,n1w,goInt,e1]
     ·simp at ha
    ·simp at ha
  ·simp at ha
 ·simp at ha
theorem LD {α:Type} (xs:Array α) (a:α) (f:α->α):(xs.push a).modify xs.size f=xs.push (f a):=by
 apply Array.ext
 ·simp
 ·intro i h1 h2
  rw [Array.getElem_modify]
  by_cases hi:xs.size=i
  ·subst hi;simp
  ·rw [if_neg hi,Array.getElem_push_lt (by simp at h2;omega),Array.getElem_push_lt (by simp at h2;omega)]
theorem CI {e:TypeId} {b:List Nat} {bs:ByteArray} {id:Nat} {S':Sto} (h:Rel σ S w) (hk:mG S (eR b)=some (id,S')) (hb:bs.data.toList.map (·.toNat)=b):
 ∃ τ V w',(Conv.stringToBytes e bs).run P w=.ok V w'/\VR τ (.sl id 0 0 b.length (.room 1)) V/\Stp σ S w τ S' w':=by
 have hsz:=oJ hb
 let cap:=bs.size+(w.tape w.drawn (.appendCap bs.size 0 e))%(2 ^ 63-bs.size)
 let arr:Array Value:=(bs.data.map fun b=>Value.int .u8 b.toNat)++Array.replicate (cap-bs.size) (.int .u8 0)
 have harr:arr.size=cap:=by
  have:(bs.data.map fun b=>Value.int .u8 b.toNat).size=bs.size:=by simp
  show ((bs.data.map fun b=>Value.int .u8 b.toNat)++Array.replicate (cap-bs.size) (Value.int .u8 0)).size=cap
  rw [Array.size_append,this,Array.size_replicate];omega
 have hvs:VRs σ (eR b) (bs.data.toList.map fun b=>Value.int .u8 b.toNat):=by
  rw [<-hb,eR,List.map_map]
  exact VRs.map _ _ _ fun x _=>.int _ _
 have hblen:(bs.data.toList.map fun b=>Value.int .u8 b.toNat).length=bs.size:=by rw [List.length_map,Array.length_toList];rfl
 obtain ⟨τ,h1,h2⟩:=sO (w:=w.drew) (arr:=arr) e (cap,cap+1) (h.world rfl) hk hvs (Nat.le_trans (Nat.le_of_eq hblen) (by rw [harr];exact Nat.le_add_right _ _))
  (fun i V hV=>by
    have hlt:i<(bs.data.toList.map fun b=>Value.int .u8 b.toNat).length:=by
     rcases Nat.lt_or_ge i (bs.data.toList.map fun b=>Value.int .u8 b.toNat).length with h' | h'
     ·exact h'
     ·rw [List.getElem?_eq_none h']at hV;cases hV
    show ((bs.data.map fun b=>Value.int .u8 b.toNat)++Array.replicate (cap-bs.size) (Value.int .u8 0))[i]?=some V
    rw [Array.getElem?_append_left (by simpa using hlt),<-hV,<-Array.getElem?_toList,Array.toList_map])
  (fun o ho=>by rw [harr]at ho;omega)
 refine ⟨τ,.slice (some ⟨w.heap.size,0,none⟩) bs.size cap,_,?_,?_,(Stp.drew h).trans h1⟩
 ·have hfr:((w.drew.alloc (.cells arr e)).freeze ⟨w.heap.size,cap,none⟩ 1)=w.drew.alloc (.cells arr e (cap,cap+1)):=by
   have:=LD w.heap (Obj.cells arr e) (fun
    | .cells c elem (lo,hi)=>.cells c elem (if lo==hi then (cap,cap+1) else (min lo cap,max hi (cap+1)))
    | o=>o)
   exact congrArg (fun h=>({heap:=h,tape:=w.tape,drawn:=w.drawn+1,os:=w.os,output:=w.output}:World)) this
  have hshape:(w.drew.alloc (.cells arr e)).shape? w.heap.size=some (e,cap):=by
   have this:(w.drew.alloc (.cells arr e)).heap[w.heap.size]?=some (.cells arr e):=nJ w.drew (.cells arr e)
   unfold World.shape?
   rw [this]
   simp [harr]
  have hrow:arr=(bs.data.map fun b=>Value.int .u8 b.toNat)++Array.replicate (cap-bs.size) (.int .u8 0):=rfl
  simp only [Conv.stringToBytes,Sem.run_bind,run_choose,Question.forced,Bool.false_eq_true,if_false,Question.cut,Result.andThen_ok,fQ,World.drew_eq]
  simp only [markStringish,Sem.run_bind,run_shape,World.size_drew,Result.andThen_ok]
  rw [<-hrow]
  simp only [hshape,run_freeze,Sem.run_pure,Result.andThen_ok]
  rw [hfr]
 ·rw [hsz]
  exact VR.sl id 0 0 b.length (.room 1) w.heap.size 0 arr.size cap h2 (by omega) (by show 0+0+cap*1<=arr.size;omega)
theorem PK:∀ (l:List AV) (b:List Nat) (vs:List Value),ofBytes l=some b->VRs σ l vs->∃ ns:List Int,vs=ns.map (Value.int .u8)/\b=ns.map fun n=>n.toNat%256:=by
 intro l
 induction l with
 | nil=>intro b vs h hv;simp [ofBytes]at h;subst h;rw [hv.nil_inv];exact ⟨[],rfl,rfl⟩
 | cons x l ih=>
   intro b vs h hv
   unfold ofBytes at h
   split at h
   ·rename_i hh;cases hh
   ·rename_i n l' he
    obtain ⟨rfl,rfl⟩:=List.cons.inj he
    split at h
    ·rename_i r hr
     simp at h;subst h
     obtain ⟨X,zs,rfl,hx,hs⟩:=hv.head
     obtain ⟨ns,rfl,rfl⟩:=ih r zs hr hs
     cases hx
     exact ⟨n::ns,rfl,rfl⟩
    ·simp at h
   ·simp at h
theorem PL (ns:List Int) (s:ByteArray):(ns.foldl (fun r n=>r.push (UInt8.ofNat n.toNat)) s).data.toList=s.data.toList++ns.map fun n=>UInt8.ofNat n.toNat:=by
 induction ns generalizing s with
 | nil=>simp
 | cons n ns ih=>rw [List.foldl_cons,ih];simp [ByteArray.push]
theorem aCo {src dst:TypeId} {x:AV} {X:Value} {r:ORes} (h:Rel σ S w) (ha:iB P S src dst x=some r) (hx:VR σ x X):
 CH σ S w (fun V w'=>(convert src dst X).run P w=.ok V w') r:=by
 unfold iB at ha
 split at ha
 ·rename_i ds k ks n hs hd
  cases hx
  rw [eA]at ha
  simp at ha;subst ha
  exact ⟨_,w,by simp [convert,aD hs,aD hd,Conv.intToInt],.int _ _,Quiet.refl w⟩
 ·rename_i ds b hs hd
  obtain ⟨bs,rfl,hb⟩:=bW hx
  simp at ha;subst ha
  exact ⟨_,w,by simp [convert,aD hs,aD hd],.str _ _ hb,Quiet.refl w⟩
 ·rename_i ds e b hs hd
  obtain ⟨bs,rfl,hb⟩:=bW hx
  split at ha
  ·rename_i he
   split at ha
   ·rename_i id S' hn
    simp at ha;subst ha
    obtain ⟨τ,V,w',h1,h2,h3⟩:=CI (P:=P) (e:=e) h hn hb
    exact ⟨τ,V,w',by simp [convert,aD hs,aD hd,aD he,h1],h2,h3⟩
   ·simp at ha
  ·simp at ha
 ·rename_i e hs hd hnostr
  split at ha
  ·rename_i n he hlen
   split at ha
   ·rename_i l hl
    split at ha
    ·rename_i b hb
     simp at ha;subst ha
     obtain ⟨Ls,f1,f2,f3,_⟩:=oH (P:=P) h hl hx
     obtain ⟨ns,rfl,rfl⟩:=PK l b Ls hb f2
     obtain ⟨_,hlen2⟩:=vQ (P:=P) (w:=w) hlen hx
     have hstr:∀ (s:ByteArray),(ns.foldl (fun r n=>r.push (UInt8.ofNat n.toNat)) ByteArray.empty)=s->VR σ (.str (ns.map fun n=>n.toNat%256)) (.string s):=by
      intro s hs
      refine .str _ _ ?_
      rw [<-hs,PL]
      simp
     have hsl:∃ a c,X=.slice a n c:=by
      unfold oM at hlen
      split at hlen
      ·cases hx;simp at hlen;subst hlen;exact ⟨_,_,rfl⟩
      ·cases hx;simp at hlen;subst hlen;exact ⟨_,_,rfl⟩
      ·cases hx;simp at hlen;subst hlen;exact ⟨_,_,rfl⟩
      ·exact (hnostr _ rfl).elim
      ·simp at hlen
     obtain ⟨a,c,rfl⟩:=hsl
     cases a with
     | none=>
       have h0:=f1 w rfl
       simp only [Builtin.firstCells,Sem.run_pure,Result.ok.injEq,and_true]at h0
       have hns:ns=[]:=by
        have:=congrArg Array.size h0
        simp at this
        exact List.eq_nil_of_length_eq_zero this.symm
       subst hns
       exact ⟨_,w,by simp [convert,aD hs,aD hd,aD he,Conv.bytesToString],hstr _ rfl,Quiet.refl w⟩
     | some a=>
       have h0:=f1 w rfl
       simp only [Builtin.firstCells,Nat.mul_one]at h0
       refine ⟨_,w,?_,hstr _ rfl,Quiet.refl w⟩
       rw [run_convert_bytes_string w src dst e (some a) n c hs he hd]
       exact run_bytesToString w a n c ns h0
    ·simp at ha
   ·simp at ha
  ·simp at ha
 ·simp at ha
end
end Go.Abs
/-
 The abstract machine: maps,new slices,assertions,least and greatest.
-/
namespace Go.Abs
section
variable {P:Program} {σ:Sg} {S:Sto} {w:World}
theorem cP {r:Nat} {o:Obj} (h:w.heap[r]?=some o) (hc:∀ c e f,o≠.cells c e f):(getObj r).run P w=.ok o w:=by
 simp only [getObj,Sem.run,h]
theorem gF {r:Nat} {o o':Obj} (h:w.heap[r]?=some o) (hc:∀ c e f,o≠.cells c e f):(setObj r o').run P w=.ok () {w with heap:=w.heap.setIfInBounds r o'}:=by
 simp only [setObj,Sem.run,h]
theorem lY {r:Nat} {o o':Obj} (h:w.heap[r]?=some o):Upd w {w with heap:=w.heap.setIfInBounds r o'} r o':=by
 have hr:=(Array.getElem?_eq_some_iff.1 h).1
 refine ⟨?_,by simp,fun b hb=>?_,rfl,rfl,rfl⟩
 ·simp [Array.getElem?_setIfInBounds,hr]
 ·simp only [Array.getElem?_setIfInBounds]
  rw [if_neg (Ne.symm hb)]
inductive EsR (σ:Sg):List (AV × AV × Nat)->List MapEntry->Prop
 | nil:EsR σ [] []
 | cons (k v:AV) (b:Nat) (E:MapEntry) (es:List (AV × AV × Nat)) (ES:List MapEntry):VR σ k E.key->VR σ v E.val->E.born=b->EsR σ es ES->EsR σ ((k,v,b)::es) (E::ES)
theorem EsR.length {es:List (AV × AV × Nat)} {ES:List MapEntry} (h:EsR σ es ES):es.length=ES.length:=by
 induction h with
 | nil=>rfl
 | cons=>simp [*]
theorem EsR.of_obj:∀ (es:List (AV × AV × Nat)) (ES:List MapEntry),es.length=ES.length->
 (∀ (i:Nat) k v b E,es[i]?=some (k,v,b)->ES[i]?=some E->VR σ k E.key/\VR σ v E.val/\E.born=b)->EsR σ es ES:=by
 intro es
 induction es with
 | nil=>intro ES h _;cases ES with
   | nil=>exact .nil
   | cons=>simp at h
 | cons x es ih=>
   intro ES h hr
   cases ES with
   | nil=>simp at h
   | cons E ES=>
     obtain ⟨k,v,b⟩:=x
     obtain ⟨h1,h2,h3⟩:=hr 0 k v b E rfl rfl
     exact .cons k v b E es ES h1 h2 h3 (ih ES (by simpa using h) fun i k v b E e1 e2=>hr (i+1) k v b E (by simpa using e1) (by simpa using e2))
theorem EsR.obj {es:List (AV × AV × Nat)} {ES:List MapEntry} (h:EsR σ es ES) (ck base sz:Nat):ObjR σ base sz (.map es ck) (.map ES.toArray ck):=by
 refine .map es ck ES.toArray (by simpa using h.length) ?_
 intro i k v b E e1 e2
 simp only [List.getElem?_toArray]at e2
 induction h generalizing i with
 | nil=>simp at e1
 | cons k' v' b' E' es ES h1 h2 h3 h4 ih=>
   cases i with
   | zero=>simp at e1 e2;obtain ⟨rfl,rfl,rfl⟩:=e1;subst e2;exact ⟨h1,h2,h3⟩
   | succ i=>simp at e1 e2;exact ih i e1 e2
theorem EsR.mono {τ:Sg} (h:σ.le τ) {es:List (AV × AV × Nat)} {ES:List MapEntry} (he:EsR σ es ES):EsR τ es ES:=by
 induction he with
 | nil=>exact .nil
 | cons k v b E es ES h1 h2 h3 h4 ih=>exact .cons _ _ _ _ _ _ (h1.mono h) (h2.mono h) h3 ih
theorem Rel.map {id ck:Nat} {es:List (AV × AV × Nat)} (h:Rel σ S w) (hx:S.get id=some (.map es ck)):∃ b base sz ES,σ id 0=some (b,base,sz)/\w.heap[b]?=some (.map ES ck)/\EsR σ es ES.toList:=by
 obtain ⟨b,base,sz,o,h1,h2,h3⟩:=h.obj id _ hx
 cases h3 with
 | map _ _ ES e1 e2=>exact ⟨b,base,sz,ES,h1,h2,.of_obj _ _ (by simpa using e1) fun i k v b E q1 q2=>e2 i k v b E q1 (by simpa using q2)⟩
theorem LE {d:TypeDesc} {k k':AV} {K K':Value} {r:Bool} (hk:kF d k=true) (h:EI k k'=some r) (h1:VR σ k K) (h2:VR σ k' K'):Instr.sameNow d K K'=some r/\(r=true->K=K'/\Instr.sameBits 10000 K' K=true):=by
 unfold EI at h
 split at h
 ·cases h1;cases h2
  rw [jP]at h
  split at h
  ·rename_i he;subst he
   simp at h;subst h
   cases d<;>simp [kF]at hk
   refine ⟨by simp [Instr.sameNow,fV],fun hr=>?_⟩
   rw [fV]at hr
   have:=eq_of_beq hr
   subst this
   exact ⟨rfl,by simp [Instr.sameBits]⟩
  ·simp at h
 ·obtain ⟨b1,rfl,e1⟩:=bW h1
  obtain ⟨b2,rfl,e2⟩:=bW h2
  simp at h;subst h
  cases d<;>simp [kF]at hk
  have:(eO Nat.beq (b1.data.toList.map (·.toNat)) (b2.data.toList.map (·.toNat)))=(b1==b2):=by
   rw [vU,beq_toListBytes,ByteArray.toList_eq,ByteArray.toList_eq]
  rw [<-e1,<-e2,this]
  refine ⟨by simp [Instr.sameNow],fun hr=>?_⟩
  have hr':=hr
  rw [beq_toListBytes,ByteArray.toList_eq,ByteArray.toList_eq]at hr'
  have hb:b1=b2:=by
   have:=eq_of_beq hr'
   cases b1;cases b2
   simp only [ByteArray.mk.injEq]
   exact Array.toList_inj.1 this
  subst hb
  exact ⟨rfl,by simp [Instr.sameBits,hr]⟩
 ·cases h1;cases h2
  simp at h;subst h
  cases d<;>simp [kF]at hk
  refine ⟨by simp [Instr.sameNow],fun hr=>?_⟩
  have:=eq_of_beq hr
  subst this
  exact ⟨rfl,by simp [Instr.sameBits]⟩
 ·simp at h
theorem oI {d:TypeDesc} {k:AV} {K:Value} (hk:kF d k=true) (hK:VR σ k K) {es:List (AV × AV × Nat)} {ES:List MapEntry} (he:EsR σ es ES):∀ (i:Nat) (r:Option (Nat × AV)),oN k es i=some r->
 (r=none/\Instr.findNow d K ES i=some none)∨(∃ j v V E,r=some (j,v)/\Instr.findNow d K ES i=some (some (j,V))/\VR σ v V/\i<=j/\ES[j-i]?=some E/\Instr.sameBits 10000 E.key K=true):=by
 induction he with
 | nil=>intro i r h;simp [oN]at h;subst h;exact .inl ⟨rfl,rfl⟩
 | cons k' v b E es ES h1 h2 h3 h4 ih=>
   intro i r h
   simp only [oN]at h
   split at h
   ·rename_i hq
    simp at h;subst h
    obtain ⟨q1,q2⟩:=LE hk hq hK h1
    exact .inr ⟨i,v,E.val,E,rfl,by simp [Instr.findNow,q1],h2,Nat.le_refl _,by simp,(q2 rfl).2⟩
   ·rename_i hq
    obtain ⟨q1,q2⟩:=LE hk hq hK h1
    rcases ih (i+1) r h with ⟨rfl,e⟩ | ⟨j,v',V,E',rfl,e,e2,e3,e4,e5⟩
    ·exact .inl ⟨rfl,by simp [Instr.findNow,q1,e]⟩
    ·refine .inr ⟨j,v',V,E',rfl,by simp [Instr.findNow,q1,e],e2,by omega,?_,e5⟩
     rw [show j-i=(j-(i+1))+1 by omega];simpa using e4
   ·simp at h
theorem run_checkKey {b:Bool} {n:Nat} {t:TypeId} {d:TypeDesc} {k:AV} {K:Value} (hu:P.underlying t=some d) (hk:kF d k=true) (hK:VR σ k K):(Instr.checkKey b (n+1) t K).run P w=.ok () w:=by
 unfold kF at hk
 split at hk
 ·cases hK;simp [Instr.checkKey,aD hu]
 ·obtain ⟨bs,rfl,_⟩:=bW hK;simp [Instr.checkKey,aD hu]
 ·cases hK;simp [Instr.checkKey,aD hu]
 ·simp at hk
theorem mS {t:TypeId} {d:TypeDesc} {e:TypeId} (h:iS P t=some (d,e)):∃ k,P.underlying t=some (.map k e)/\P.underlying k=some d:=by
 unfold iS at h
 split at h
 ·rename_i k e' hu
  split at h
  ·rename_i d' hd
   simp at h;obtain ⟨rfl,rfl⟩:=h
   exact ⟨k,hu,hd⟩
  ·simp at h
 ·simp at h
theorem fP {t:TypeId} {d:TypeDesc} {K:Value} {ES:List MapEntry} {r:Option (Nat × Value)} (hu:P.underlying t=some d) (h:Instr.findNow d K ES 0=some r):(Instr.findKey t K ES).run P w=.ok r w:=by
 simp [Instr.findKey,aD hu,h]
theorem iQ {b:Bool} {t:TypeId} {d:TypeDesc} {k:AV} {K:Value} (hu:P.underlying t=some d) (hk:kF d k=true) (hK:VR σ k K):(Instr.checkKey b 10000 t K).run P w=.ok () w:=
 run_checkKey (n:=9999) hu hk hK
theorem PM {t:TypeId} {m k v:AV} {M K:Value} {ok:Bool} (h:Rel σ S w) (ha:alookup P S t m k ok=some v) (hm:VR σ m M) (hk:VR σ k K):∃ V,(Instr.lookup t M K ok).run P w=.ok V w/\VR σ v V:=by
 unfold alookup at ha
 split at ha
 ·rename_i d e hd
  obtain ⟨kt,hu,huk⟩:=mS hd
  cases hkk:kF d k with
  | false=>simp only [hkk,cond_false,reduceCtorEq]at ha
  | true=>
    simp only [hkk,cond_true]at ha
    have hck:=fun b=>iQ (P:=P) (w:=w) (b:=b) huk hkk hk
    have hfound:∀ V v',VR σ v' V->VR σ (bif ok then .tuple [v',.bool true] else v') (if ok then .tuple #[V,.bool true] else V):=by
     intro V v' hv
     cases ok
     ·exact hv
     ·exact VR.tuple_iff.2 ⟨_,rfl,VRs.cons hv (VRs.cons (.bool _) (VRs.nil _))⟩
    have hmiss:∀ V v',VR σ v' V->VR σ (bif ok then .tuple [v',.bool false] else v') (if ok then .tuple #[V,.bool false] else V):=by
     intro V v' hv
     cases ok
     ·exact hv
     ·exact VR.tuple_iff.2 ⟨_,rfl,VRs.cons hv (VRs.cons (.bool _) (VRs.nil _))⟩
    split at ha
    ·rename_i q v' hf
     simp at ha;subst ha
     split at hf
     ·simp at hf
     ·rename_i id
      split at hf
      ·rename_i es ck hg
       obtain ⟨b,base,sz,ES,h1,h2,h3⟩:=h.map hg
       cases hm with
       | map _ b' base' sz' hs=>
         rw [h1]at hs
         obtain ⟨rfl,rfl,rfl⟩:b=b'/\base=base'/\sz=sz':=by simpa using hs
         rcases oI hkk hk h3 0 _ hf with ⟨e1,_⟩ | ⟨j,v2,V,E,e1,e2,e3,_⟩
         ·cases e1
         ·simp at e1;obtain ⟨rfl,rfl⟩:=e1
          refine ⟨_,?_,hfound V v' e3⟩
          simp [Instr.lookup,aD hu,cP h2 (fun _ _ _=>by simp),hck,fP huk e2]
      ·simp at hf
     ·simp at hf
    ·rename_i hf
     split at ha
     ·rename_i z hz
      obtain ⟨Z,z1,z2,_⟩:=gG hz
      simp at ha;subst ha
      split at hf
      ·cases hm
       refine ⟨_,?_,hmiss Z z (z2 σ)⟩
       have:Instr.findNow d K [] 0=some none:=rfl
       simp [Instr.lookup,aD hu,hck,fP huk this,z1]
      ·rename_i id
       split at hf
       ·rename_i es ck hg
        obtain ⟨b,base,sz,ES,h1,h2,h3⟩:=h.map hg
        cases hm with
        | map _ b' base' sz' hs=>
          rw [h1]at hs
          obtain ⟨rfl,rfl,rfl⟩:b=b'/\base=base'/\sz=sz':=by simpa using hs
          rcases oI hkk hk h3 0 _ hf with ⟨_,e2⟩ | ⟨j,v2,V,E,e1,e2,e3,_⟩
          ·refine ⟨_,?_,hmiss Z z (z2 σ)⟩
           simp [Instr.lookup,aD hu,cP h2 (fun _ _ _=>by simp),hck,fP huk e2,z1]
          ·cases e1
       ·simp at hf
      ·simp at hf
     ·simp at ha
    ·simp at ha
 ·simp at ha
theorem EsR.set {es:List (AV × AV × Nat)} {ES:List MapEntry} (h:EsR σ es ES) (i:Nat) {k v:AV} {K V:Value} (hk:VR σ k K) (hv:VR σ v V):EsR σ (aCt es i k v) (ES.modify i fun e=>{e with key:=K,val:=V}):=by
 induction h generalizing i with
 | nil=>cases i<;>exact .nil
 | cons k' v' b E es ES h1 h2 h3 h4 ih=>
   cases i with
   | zero=>exact .cons _ _ _ _ _ _ hk hv h3 h4
   | succ i=>exact .cons _ _ _ _ _ _ h1 h2 h3 (ih i)
theorem EsR.del {es:List (AV × AV × Nat)} {ES:List MapEntry} (h:EsR σ es ES) (i:Nat):EsR σ (aKt es i) (ES.eraseIdx i):=by
 induction h generalizing i with
 | nil=>cases i<;>exact .nil
 | cons k' v' b E es ES h1 h2 h3 h4 ih=>
   cases i with
   | zero=>exact h4
   | succ i=>exact .cons _ _ _ _ _ _ h1 h2 h3 (ih i)
theorem EsR.append {a b:List (AV × AV × Nat)} {A B:List MapEntry} (h:EsR σ a A) (h':EsR σ b B):EsR σ (a++b) (A++B):=by
 induction h with
 | nil=>exact h'
 | cons k' v' b E es ES h1 h2 h3 h4 ih=>exact .cons _ _ _ _ _ _ h1 h2 h3 ih
theorem tH {t:TypeId} {m k v:AV} {M K V:Value} {S':Sto} (h:Rel σ S w) (ha:dO P S t m k v=some S') (hm:VR σ m M) (hk:VR σ k K) (hv:VR σ v V):
 ∃ w',(Instr.mapUpdate t M K V).run P w=.ok () w'/\Stp σ S w σ S' w':=by
 unfold dO at ha
 split at ha
 ·rename_i d e id hd
  obtain ⟨kt,hu,huk⟩:=mS hd
  cases hkk:kF d k with
  | false=>simp only [hkk,cond_false,reduceCtorEq]at ha
  | true=>
    simp only [hkk,cond_true]at ha
    split at ha
    ·rename_i es ck hg
     obtain ⟨b,base,sz,ES,h1,h2,h3⟩:=h.map hg
     cases hm with
     | map _ b' base' sz' hs=>
       rw [h1]at hs
       obtain ⟨rfl,rfl,rfl⟩:b=b'/\base=base'/\sz=sz':=by simpa using hs
       have hck:=iQ (P:=P) (w:=w) (b:=false) huk hkk hk
       split at ha
       ·rename_i i v' hf
        simp at ha;subst ha
        rcases oI hkk hk h3 0 _ hf with ⟨e1,_⟩ | ⟨j,v2,V',E,e1,e2,e3,e4,e5,e6⟩
        ·cases e1
        ·simp at e1;obtain ⟨rfl,rfl⟩:=e1
         have hE:ES[i]?=some E:=by simpa using e5
         have ho:=lY (o':=.map (ES.modify i fun e=>{e with key:=K,val:=V}) ck) h2
         refine ⟨_,?_,stp_put h hg h1 rfl ho.at_ ?_ ho.size ho.rest ho.os ho.out ho.tape⟩
         ·simp [Instr.mapUpdate,aD hu,cP h2 (fun _ _ _=>by simp),hck,fP huk e2,hE,Instr.keyThatStays,e6,gF h2 (fun _ _ _=>by simp)]
         ·have:=(h3.set i hk hv).obj ck base sz
          have hh:(ES.toList.modify i fun e=>{e with key:=K,val:=V}).toArray=ES.modify i fun e=>{e with key:=K,val:=V}:=by
           apply Array.toList_inj.1;simp
          rw [hh]at this;exact this
       ·rename_i hf
        simp at ha;subst ha
        rcases oI hkk hk h3 0 _ hf with ⟨_,e2⟩ | ⟨j,v2,V',E,e1,_⟩
        ·have ho:=lY (o':=.map (ES.push {key:=K,val:=V,born:=ck}) (ck+1)) h2
         refine ⟨_,?_,stp_put h hg h1 rfl ho.at_ ?_ ho.size ho.rest ho.os ho.out ho.tape⟩
         ·simp [Instr.mapUpdate,aD hu,cP h2 (fun _ _ _=>by simp),hck,fP huk e2,gF h2 (fun _ _ _=>by simp)]
         ·have:=(h3.append (.cons k v ck {key:=K,val:=V,born:=ck} [] [] hk hv rfl .nil)).obj (ck+1) base sz
          have hh:(ES.toList++[({key:=K,val:=V,born:=ck}:MapEntry)]).toArray=ES.push {key:=K,val:=V,born:=ck}:=by
           apply Array.toList_inj.1;simp
          rw [hh]at this;exact this
        ·cases e1
       ·simp at ha
    ·simp at ha
 ·simp at ha
theorem WO {bs:ByteArray} {b:List Nat} (h:bs.data.toList.map (·.toNat)=b):mB b=bs:=by
 subst h
 obtain ⟨d⟩:=bs
 simp only [mB,List.map_map]
 congr 1
 apply Array.toList_inj.1
 have:(UInt8.ofNat ∘ fun x:UInt8=>x.toNat)=id:=by funext x;simp
 simp [this]
theorem aCp {it:AV} {str:Bool} {X:Value} {ty:TypeId} {r:ORes} (h:Rel σ S w) (ha:anext S it str=some r) (hx:VR σ it X):
 (∃ v V,r=.val v/\(Instr.next X str ty).run P w=.ok V w/\VR σ v V)∨(∃ v V S' w',r=.val' v S'/\(Instr.next X str ty).run P w=.ok V w'/\VR σ v V/\Stp σ S w σ S' w'):=by
 unfold anext at ha
 cases str with
 | false=>simp at ha
 | true=>
   simp only [cond_true]at ha
   split at ha
   ·rename_i id
    split at ha
    ·rename_i b pos hg
     obtain ⟨b',base,sz,o,h1,h2,h3⟩:=h.obj id _ hg
     cases h3 with
     | siter _ _ bs q1 q2=>
       subst q2
       cases hx with
       | ptr _ _ _ b2 base2 sz2 hs=>
         have h1':σ id 0=some (b',0,sz):=h1
         rw [h1']at hs
         obtain ⟨rfl,rfl,rfl⟩:b'=b2/\0=base2/\sz=sz2:=by simpa using hs
         have hlen:b.length=bs.size:=by
          have h0:=congrArg List.length q1
          rw [List.length_map,Array.length_toList]at h0;exact h0.symm
         rw [WO q1]at ha
         cases hb:Nat.blt pos b.length with
         | true=>
           rw [hb]at ha
           rcases hdec:Utf8.decode bs pos with ⟨c,wd⟩
           rw [hdec]at ha
           simp only [cond_true,Option.some.injEq]at ha
           subst ha
           have hlt:pos<bs.size:=by rw [<-hlen];simpa using hb
           have ho:=lY (o':=.stringIter bs (pos+wd)) h2
           refine .inr ⟨_,.tuple #[.bool true,goInt pos,.int .i32 c],_,_,rfl,?_,?_,stp_put h hg h1 rfl ho.at_ (.siter _ _ _ q1 rfl) ho.size ho.rest ho.os ho.out ho.tape⟩
           ·have g1:=cP (P:=P) h2 (fun _ _ _ he=>by cases he)
            have g2:=gF (P:=P) (o':=.stringIter bs (pos+wd)) h2 (fun _ _ _ he=>by cases he)
            simp [Instr.next,g1,g2,hlt,hdec]
           ·exact VR.tuple_iff.2 ⟨_,rfl,VRs.cons (.bool _) (VRs.cons (.int _ _) (VRs.cons (.int _ _) (VRs.nil _)))⟩
         | false=>
           rw [hb]at ha
           simp only [cond_false,Option.some.injEq]at ha
           subst ha
           have hlt:¬ pos<bs.size:=by
            rw [<-hlen];intro hc
            have:Nat.blt pos b.length=true:=by simpa using hc
            rw [hb]at this;cases this
           refine .inl ⟨_,.tuple #[.bool false],rfl,?_,VR.tuple_iff.2 ⟨_,rfl,VRs.cons (.bool _) (VRs.nil _)⟩⟩
           simp [Instr.next,cP h2 (fun _ _ _ he=>by cases he),hlt]
    ·simp at ha
   ·simp at ha
theorem PN {t u:TypeId} {m k:AV} {M K:Value} {S':Sto} (h:Rel σ S w) (ha:HT P S t m k=some S') (hm:VR σ m M) (hk:VR σ k K):
 ∃ w',(∀ (ts:Array TypeId),ts[0]?=some t->(Builtin.delete_ ts u #[M,K]).run P w=.ok (.tuple #[]) w')/\Stp σ S w σ S' w':=by
 unfold HT at ha
 split at ha
 ·rename_i d e hd
  obtain ⟨kt,hu,huk⟩:=mS hd
  cases hkk:kF d k with
  | false=>simp only [hkk,cond_false,reduceCtorEq]at ha
  | true=>
    simp only [hkk,cond_true,Option.some.injEq]at ha
    subst ha
    cases hm
    refine ⟨w,fun ts hts=>?_,Stp.refl h⟩
    simp [Builtin.delete_,hts,aD hu,iQ (P:=P) (w:=w) huk hkk hk]
 ·rename_i d e id hd
  obtain ⟨kt,hu,huk⟩:=mS hd
  cases hkk:kF d k with
  | false=>simp only [hkk,cond_false,reduceCtorEq]at ha
  | true=>
    simp only [hkk,cond_true]at ha
    split at ha
    ·rename_i es ck hg
     obtain ⟨b,base,sz,ES,h1,h2,h3⟩:=h.map hg
     cases hm with
     | map _ b' base' sz' hs=>
       rw [h1]at hs
       obtain ⟨rfl,rfl,rfl⟩:b=b'/\base=base'/\sz=sz':=by simpa using hs
       have hck:=fun b=>iQ (P:=P) (w:=w) (b:=b) huk hkk hk
       split at ha
       ·rename_i i v' hf
        simp at ha;subst ha
        rcases oI hkk hk h3 0 _ hf with ⟨e1,_⟩ | ⟨j,v2,V',E,e1,e2,e3,e4,e5,e6⟩
        ·cases e1
        ·simp at e1;obtain ⟨rfl,rfl⟩:=e1
         have ho:=lY (o':=.map (ES.eraseIdxIfInBounds i) ck) h2
         refine ⟨_,fun ts hts=>?_,stp_put h hg h1 rfl ho.at_ ?_ ho.size ho.rest ho.os ho.out ho.tape⟩
         ·simp [Builtin.delete_,hts,aD hu,cP h2 (fun _ _ _=>by simp),hck,fP huk e2,gF h2 (fun _ _ _=>by simp)]
         ·have:=(h3.del i).obj ck base sz
          have hh:(ES.toList.eraseIdx i).toArray=ES.eraseIdxIfInBounds i:=by
           apply Array.toList_inj.1;simp
          rw [hh]at this;exact this
       ·rename_i hf
        simp at ha;subst ha
        rcases oI hkk hk h3 0 _ hf with ⟨_,e2⟩ | ⟨j,v2,V',E,e1,_⟩
        ·have ho:=lY (o':=.map ES ck) h2
         refine ⟨_,fun ts hts=>?_,stp_put h hg h1 rfl ho.at_ ?_ ho.size ho.rest ho.os ho.out ho.tape⟩
         ·simp [Builtin.delete_,hts,aD hu,cP h2 (fun _ _ _=>by simp),hck,fP huk e2,gF h2 (fun _ _ _=>by simp)]
         ·have:=h3.obj ck base sz
          simpa using this
        ·cases e1
       ·simp at ha
    ·simp at ha
 ·simp at ha
end
end Go.Abs
