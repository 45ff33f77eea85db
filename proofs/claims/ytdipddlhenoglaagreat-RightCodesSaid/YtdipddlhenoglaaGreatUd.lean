/-
  The abstract machine: loads, stores, new rows.
-/
import Derived.Test.YtdipddlhenoglaaGreatUb
import Derived.Laws.StructEq
import Derived.Lib.SmallJoins
import Derived.Lib.Slices
import Derived.Laws.BytesString
set_option linter.unusedVariables false
set_option linter.unusedSimpArgs false
namespace Go.Abs
theorem dI (b o n:Nat):(⟨b,o,none⟩:Addr).add n=⟨b,o+n,none⟩:=by
 unfold Addr.add;split
 ·rename_i h;subst h;rfl
 ·rfl
section
variable {P:Program} {σ:Sg} {S:Sto} {w:World}
theorem aB {t:TypeId} {d:TypeDesc} (h:P.underlying t=some d) (w:World):(underlying t).run P w=.ok d w:=by simp [underlying,h]
theorem cV {t:TypeId} {i:TypeInfo} (h:P.info? t=some i) (w:World):(typeInfo t).run P w=.ok i w:=by simp [typeInfo,h]
theorem aX {t:TypeId} {n:Nat} (h:qP P t=some n) (w:World):(sizeOf t).run P w=.ok n w:=by
 unfold qP at h
 cases a:P.info? t with
 | none=>simp [a]at h
 | some i=>simp [a]at h;simp [sizeOf,cV a,h]
theorem rR {t:TypeId} {n:Nat} (h:nY P t=some n) (w:World):∃ i,(typeInfo t).run P w=.ok i w/\i.bytes=n:=by
 unfold nY at h
 cases a:P.info? t with
 | none=>simp [a]at h
 | some i=>simp [a]at h;exact ⟨i,cV a w,h⟩
theorem gU {t:TypeId} {b:Bool} (h:CI P t=some b) (w:World):(isAgg t).run P w=.ok b w:=by
 unfold CI at h
 cases a:P.underlying t with
 | none=>simp [a]at h
 | some d=>
   simp [a]at h;subst h;simp only [isAgg,Sem.run_bind,aB a,Result.andThen_ok];cases d<;>rfl
theorem yX:∀ (l:List Value) (r:List AV),aDu l=some r->VRs σ r l/\∀ x∈r,x.isCell=true:=by
 intro l
 induction l with
 | nil=>intro r h;simp [aDu]at h;subst h;exact ⟨VRs.nil σ,by simp⟩
 | cons v l m=>
   intro r h;simp only [aDu]at h;split at h
   ·simp at h
   ·rename_i a b
    split at h
    ·simp at h
    ·rename_i o k
     simp only [Option.some.injEq]at h;subst h;obtain ⟨e,f⟩:=m o k
     have d:VR σ a v/\a.isCell=true:=by
      split at b<;>simp at b<;>subst b
      ·exact ⟨.bool _,rfl⟩
      ·exact ⟨.int _ _,rfl⟩
      ·exact ⟨.str _ _ rfl,rfl⟩
      ·exact ⟨.nilp,rfl⟩
      ·exact ⟨.nils,rfl⟩
      ·exact ⟨.nilm,rfl⟩
      ·exact ⟨.nilf,rfl⟩
      ·exact ⟨.nili,rfl⟩
     exact ⟨VRs.cons d.1 e,fun x c=>by rcases List.mem_cons.1 c with rfl | c;exact d.2;exact f x c⟩
theorem WH (V:Value):VR σ (NS V) V:=by
 unfold NS;split
 ·split
  ·rename_i l e;exact VR.agg_iff.2 ⟨_,rfl,(yX _ _ e).1⟩
  ·exact .top _
 ·split
  ·rename_i a d
   obtain ⟨X,f,b,c,_⟩:=(yX (σ:=σ) _ _ d).1.head;simp at b;rw [b.1];exact c
  ·exact .top _
theorem aDn (V:Value):NS V=.top∨(NS V).isCell=true∨∃ cs,NS V=.agg cs:=by
 unfold NS;split
 ·split
  ·exact .inr (.inr ⟨_,rfl⟩)
  ·exact .inl rfl
 ·split
  ·rename_i a b
   exact .inr (.inl ((yX (σ:=Sg.nil) _ _ b).2 a (by simp)))
  ·exact .inl rfl
theorem HP {V:Value} {cs:List AV} (h:NS V=.agg cs):cs.all AV.isCell=true:=by
 unfold NS at h;split at h
 ·split at h
  ·rename_i l c
   simp at h;subst h
   exact List.all_eq_true.2 fun x d=>(yX (σ:=Sg.nil) _ _ c).2 x d
  ·cases h
 ·split at h
  ·rename_i a b
   have:=(yX (σ:=Sg.nil) _ _ b).2 a (by simp);rw [h]at this;simp [AV.isCell]at this
  ·cases h
theorem iH {t:TypeId} {z:AV} (h:bF P t=some z):∃ Z,(∀ w,(zeroValue t).run P w=.ok Z w)/\(∀ σ,VR σ z Z)/\(∀ σ,VRs σ z.cells Z.cells.toList)/\z.cells.all AV.isCell=true/\(z.isCell=true∨∃ cs,z=.agg cs):=by
 unfold bF at h
 cases c:P.info? t with
 | none=>simp [c]at h
 | some i=>
   cases e:i.zero with
   | none=>simp [c,e]at h
   | some v=>
     simp only [c,e,Option.bind_some]at h
     have b:NS v=z/\z≠.top:=by
      cases f:NS v<;>simp [f]at h<;>subst h<;>simp
     have d:z.isCell=true∨∃ cs,z=.agg cs:=by
      rcases aDn v with a | a | a
      ·exact absurd (b.1 ▸ a) b.2
      ·exact .inl (b.1 ▸ a)
      ·exact .inr (b.1 ▸ a)
     refine ⟨v,fun w=>by simp [zeroValue,cV c,e],fun σ=>b.1 ▸ WH v,fun σ=>VR.cells (b.1 ▸ WH v) d,?_,d⟩
     rcases d with a | ⟨cs,rfl⟩
     ·cases z<;>first | (simp [AV.isCell]at a;done) | simp [AV.cells,AV.isCell]
     ·exact HP b.1
theorem bA {e:Env} {a:Act} (h:TmR σ e.nt e.t a.tmps) (x:Operand):VR σ (e.eval x) (a.eval x):=by
 cases x with
 | tmp t=>
   simp only [Env.eval,Act.eval]
   cases b:e.t.get t with
   | none=>exact .top _
   | some v=>exact (h.2 t v b).2
 | const v=>exact WH v
 | global g=>exact .top _
 | func f=>exact .func _ _ _ _ _ _ (.func f) rfl rfl (by simp) (by simp)
theorem uC {e:Env} {a:Act} (h:TmR σ e.nt e.t a.tmps) (xs:Array Operand):VRs σ (fG e xs) (xs.map a.eval).toList:=by
 unfold fG;rw [Array.toList_map]
 exact VRs.map _ _ _ fun x _=>bA h x
theorem Rel.cells {id g n:Nat} {c:Tr AV} (h:Rel σ S w) (u:S.get id=some (.cells g n c)):∃ b base arr d fr,σ id g=some (b,base,arr.size)/\w.heap[b]?=some (.cells arr d fr)/\
 base+n<=arr.size/\(∀ i a,i<n->c.get i=some a->∃ V,arr[base+i]?=some V/\VR σ a V)/\(∀ o,o<arr.size->¬ (fr.1<=o/\o<fr.2)):=by
 obtain ⟨b,base,sz,o,m,q,r⟩:=h.obj id _ u
 cases r with
 | cells _ _ _ arr d fr e f k l=>
   subst e;exact ⟨b,base,arr,d,fr,m,q,f,k,l⟩
theorem iI (b:Nat):∀ (vs:List Value) (o i:Nat) (acc:Array Value),(∀ j v,vs[j]?=some v->w.cell? ⟨b,o+i+j,none⟩=some v)->
 (loadCellsFrom ⟨b,o,none⟩ i vs.length acc).run P w=.ok (acc++vs.toArray) w:=by
 intro vs
 induction vs with
 | nil=>intro o i acc _;simp [loadCellsFrom]
 | cons v vs d=>
   intro o i acc h;have a:=h 0 v rfl;simp only [Nat.add_zero]at a;simp only [List.length_cons,loadCellsFrom,Sem.run_bind,dI,run_load,a,Result.andThen_ok]
   rw [d o (i+1) (acc.push v) (fun j u c=>by
    have:=h (j+1) u (by simpa using c)
    rw [<-this];congr 2;omega)]
   simp
structure Upd (w w':World) (b:Nat) (o:Obj):Prop where
 at_:w'.heap[b]?=some o
 size:w'.heap.size=w.heap.size
 rest:∀ b',b'≠b->w'.heap[b']?=w.heap[b']?
 os:w'.os=w.os
 out:w'.output=w.output
 tape:w'.tape=w.tape
theorem NJ (w:World) (b o:Nat) (v:Value) (arr:Array Value) (a:TypeId) (fr:Nat × Nat) (h:w.heap[b]?=some (.cells arr a fr)):
 Upd w (w.setCell ⟨b,o,none⟩ v) b (.cells (arr.setIfInBounds o v) a fr):=by
 refine ⟨?_,by simp [World.setCell],fun b' c=>?_,rfl,rfl,rfl⟩
 ·simp [World.setCell,Array.getElem?_modify,h]
 ·simp only [World.setCell,Array.getElem?_modify]
  rw [if_neg (Ne.symm c)]
theorem uD (b:Nat) (m:TypeId) (fr:Nat × Nat):∀ (vs:List Value) (o i:Nat) (w:World) (arr:Array Value),w.heap[b]?=some (.cells arr m fr)->o+i+vs.length<=arr.size->
 (∀ v∈vs,v.oneCell'=true)->(∀ k,k<arr.size->¬ (fr.1<=k/\k<fr.2))->
 ∃ w' a,(storeCells ⟨b,o,none⟩ vs i).run P w=.ok () w'/\Upd w w' b (.cells a m fr)/\a.size=arr.size/\
   ∀ k:Nat,a[k]?=if o+i<=k/\k<o+i+vs.length then vs[k-(o+i)]? else arr[k]?:=by
 intro vs
 induction vs with
 | nil=>
   intro o i w arr h _ _ _;refine ⟨w,arr,by simp [storeCells],⟨h,rfl,fun _ _=>rfl,rfl,rfl,rfl⟩,rfl,fun k=>?_⟩;rw [if_neg (by simp)]
 | cons v vs H=>
   intro o i w arr h F y A;simp only [List.length_cons]at F
   have c:w.cell? ⟨b,o+i,none⟩=arr[o+i]?:=by simp [World.cell?,h]
   have d:o+i<arr.size:=by omega
   have q:w.frozen? ⟨b,o+i,none⟩=false:=by
    simp only [World.frozen?,h];have:=A (o+i) d
    simpa using this
   have f:=NJ w b (o+i) v arr m fr h;obtain ⟨w',a,C,e,D,E⟩:=H o (i+1) (w.setCell ⟨b,o+i,none⟩ v) (arr.setIfInBounds (o+i) v) f.at_ (by simp;omega) (fun u G=>y u (by simp [G])) (by simpa using A);refine ⟨w',a,?_,⟨e.at_,e.size.trans f.size,fun b' r=>(e.rest b' r).trans (f.rest b' r),e.os.trans f.os,e.out.trans f.out,e.tape.trans f.tape⟩,by simpa using D,fun k=>?_⟩
   ·simp only [storeCells,Sem.run_bind,dI,run_store P w _ v .plain (y v (by simp)),c,Array.getElem?_eq_getElem d,q,Bool.false_eq_true,if_false,Result.andThen_ok]
    exact C
   ·rw [E k,Array.getElem?_setIfInBounds]
    simp only [List.length_cons];by_cases B:k=o+i
    ·subst B
     simp [d];intro h;omega
    ·by_cases l:o+(i+1)<=k/\k<o+(i+1)+vs.length
     ·rw [if_pos l,if_pos (by omega)]
      rw [show k-(o+i)=(k-(o+(i+1)))+1 by omega];simp
     ·rw [if_neg l,if_neg (fun h=>B h.symm),if_neg (by omega)]
theorem yY {t:TypeId} {a v:AV} {A:Value} (h:Rel σ S w) (d:fE P S t a=some v) (ha:VR σ a A):
 ∃ ad V,A=.pointer (some ad)/\(loadVar t ad).run P w=.ok V w/\VR σ v V:=by
 unfold fE at d;split at d
 ·rename_i id g off
  split at d
  ·rename_i g' n c r
   rw [eQ]at d;split at d
   ·rename_i hg;subst hg
    obtain ⟨b,base,arr,el,fr,R,I,h3,h4,h5⟩:=h.cells r
    cases ha with
    | ptr _ _ _ b' base' sz' D=>
      rw [R]at D
      obtain ⟨rfl,rfl,rfl⟩:b=b'/\base=base'/\arr.size=sz':=by simpa using D
      refine ⟨⟨b,base+off,none⟩,?_⟩;split at d
      ·rename_i k e E
       rw [lF]at d;split at d
       ·rename_i aa
        split at d
        ·rename_i l O
         simp at d;subst d;obtain ⟨C,N⟩:=Tr.row_spec c k off l O
         have G:∃ vs:List Value,vs.length=k/\VRs σ l vs/\∀ (j:Nat) v,vs[j]?=some v->w.cell? ⟨b,base+off+j,none⟩=some v:=by
          refine ⟨(List.range k).map fun j=>arr.getD (base+off+j) undef,by simp,⟨by simp [C],fun j x X r L=>?_⟩,fun j v y=>?_⟩
          ·have o:j<k:=by
            rw [<-C]
            rcases Nat.lt_or_ge j l.length with f | f
            ·exact f
            ·rw [List.getElem?_eq_none f]at r;cases r
           rw [<-N j o]at r;obtain ⟨V,Q,T⟩:=h4 (off+j) x (by omega) r;simp [o]at L;subst L;rw [<-Nat.add_assoc]at Q;simp [Q,T]
          ·have o:j<k:=by
            rcases Nat.lt_or_ge j k with f | f
            ·exact f
            ·rw [List.getElem?_eq_none (by simpa using f)]at y;cases y
           simp [o]at y;subst y
           have hb:base+off+j<arr.size:=by omega
           simp [World.cell?,I,Array.getElem?_eq_getElem hb]
         obtain ⟨vs,J,F,q⟩:=G;refine ⟨.agg vs.toArray,rfl,?_,VR.agg_iff.2 ⟨_,rfl,by simpa using F⟩⟩;have:=iI (P:=P) (w:=w) b vs (base+off) 0 #[] (fun j v o=>by simpa using q j v o);simp only [loadVar,Sem.run_bind,gU e,Result.andThen_ok,if_true,aX E,loadCells];rw [<-J,this];simp
        ·simp at d
       ·simp at d
      ·rename_i e
       rw [eI]at d;split at d
       ·rename_i Z
        obtain ⟨V,Q,T⟩:=h4 off v Z d;refine ⟨V,rfl,?_,T⟩;simp only [loadVar,Sem.run_bind,gU e,Result.andThen_ok,Bool.false_eq_true,if_false,run_load]
        have:w.cell? ⟨b,base+off,none⟩=some V:=by simp [World.cell?,I,Q]
        simp [this]
       ·simp at d
      ·simp at d
   ·simp at d
  ·simp at d
 ·rename_i u
  cases ha with
  | pf H b off R I=>
    refine ⟨⟨b,off,none⟩,?_⟩;split at d
    ·rename_i k cs e E
     rw [eQ]at d;split at d
     ·rename_i J
      simp at d;subst d
      have G:∃ vs:List Value,vs.length=k/\VRs σ cs vs/\∀ (j:Nat) v,vs[j]?=some v->w.cell? ⟨b,off+j,none⟩=some v:=by
       refine ⟨(List.range k).map fun j=>(σ.m b (off+j)).getD undef,by simp,⟨by simp [J],fun j x X r L=>?_⟩,fun j v y=>?_⟩
       ·have o:j<k:=by
         rw [<-J]
         rcases Nat.lt_or_ge j cs.length with f | f
         ·exact f
         ·rw [List.getElem?_eq_none f]at r;cases r
        have D:=I j (by simpa [AV.cells,J] using o);obtain ⟨V,B⟩:=Option.isSome_iff_exists.1 D;simp [o,B]at L;subst L;exact R j x V r B
       ·have o:j<k:=by
         rcases Nat.lt_or_ge j k with f | f
         ·exact f
         ·rw [List.getElem?_eq_none (by simpa using f)]at y;cases y
        have D:=I j (by simpa [AV.cells,J] using o);obtain ⟨V,B⟩:=Option.isSome_iff_exists.1 D;simp [o,B]at y;subst y;exact (h.mu b _ _ B).1
      obtain ⟨vs,Y,F,q⟩:=G;refine ⟨.agg vs.toArray,rfl,?_,VR.agg_iff.2 ⟨_,rfl,by simpa using F⟩⟩;have:=iI (P:=P) (w:=w) b vs off 0 #[] (fun j v o=>by simpa using q j v o);simp only [loadVar,Sem.run_bind,gU e,Result.andThen_ok,if_true,aX E,loadCells];rw [<-Y,this];simp
     ·simp at d
    ·rename_i H _ _ _ e
     cases U:H.isCell with
     | false=>rw [U]at d;cases d
     | true=>
       rw [U]at d
       obtain rfl:H=v:=by simpa using d
       have M:H.cells=[H]:=by cases H<;>first | (simp [AV.isCell]at U;done) | rfl
       have D:=I 0 (by simp [M]);obtain ⟨V,B⟩:=Option.isSome_iff_exists.1 D;refine ⟨V,rfl,?_,R 0 H V (by simp [M]) B⟩;have q:=(h.mu b _ _ B).1;simp only [Nat.add_zero]at q;simp only [loadVar,Sem.run_bind,gU e,Result.andThen_ok,Bool.false_eq_true,if_false,run_load,q]
    ·simp at d
 ·simp at d
theorem WI {v:AV} {V:Value} (h:VR σ v V) (a:v.isCell=true):V.oneCell'=true:=(h.isCell a).2.1
theorem BZ {cs:List AV} {vs:List Value} (h:VRs σ cs vs) (d:cs.all AV.isCell=true):∀ v∈vs,v.oneCell'=true:=by
 intro v e;obtain ⟨i,b⟩:=List.getElem?_of_mem e
 have c:i<cs.length:=by
  rw [h.1]
  rcases Nat.lt_or_ge i vs.length with a | a
  ·exact a
  ·rw [List.getElem?_eq_none a]at b;cases b
 exact WI (h.2 i _ v (List.getElem?_eq_getElem c) b) (List.all_eq_true.1 d _ (List.getElem_mem c))
theorem yZ {id g n:Nat} {c:Tr AV} {off:Nat} {cs:List AV} {vs:List Value} {b base o:Nat} (h:Rel σ S w) (A:S.get id=some (.cells g n c)) (m:∃ sz,σ id g=some (b,base,sz)) (H:off+cs.length<=n)
 (d:VRs σ cs vs) (F:cs.all AV.isCell=true) (I:o=base+off):
 ∃ w',(storeCells ⟨b,o,none⟩ vs).run P w=.ok () w'/\Stp σ S w σ (S.put id (.cells g n (c.lay off cs))) w':=by
 obtain ⟨b',base',arr,u,fr,v,D,L,E,y⟩:=h.cells A;obtain ⟨sz,m⟩:=m;rw [v]at m
 obtain ⟨rfl,rfl,rfl⟩:b'=b/\base'=base/\arr.size=sz:=by simpa using m
 subst I;obtain ⟨w',k,B,f,C,q⟩:=uD (P:=P) b' u fr vs (base'+off) 0 w arr D (by rw [<-d.1];omega) (BZ d F) y;refine ⟨w',B,stp_put h A v rfl f.at_ (.cells g n _ k u fr C (by omega) (fun i a G l=>?_) y) f.size f.rest f.os f.out f.tape⟩;rw [Tr.get_lay]at l;simp only [Nat.add_zero]at q;split at l
 ·rename_i J
  obtain ⟨V,r,e⟩:=d.get l;refine ⟨V,?_,e⟩;rw [q,if_pos (by rw [<-d.1];omega),<-r]
  congr 1;omega
 ·rename_i J
  obtain ⟨V,r,e⟩:=E i a G l;refine ⟨V,?_,e⟩;rw [q,if_neg (by rw [<-d.1];omega)];exact r
theorem aDo {t:TypeId} {a x:AV} {A X:Value} {u:Sto} (h:Rel σ S w) (l:mD P S t a x=some u) (C:VR σ a A) (G:VR σ x X):
 ∃ w',(Instr.storeAt t A X).run P w=.ok () w'/\Stp σ S w σ u w':=by
 unfold mD at l;split at l
 ·rename_i id g off
  split at l
  ·rename_i B n c k f r
   cases d:(Nat.beq g B&&Nat.ble (off+k) n&&Nat.beq x.cells.length k&&x.cells.all AV.isCell) with
   | false=>simp [d]at l
   | true=>
     simp only [d,cond_true,Option.some.injEq]at l;subst l;simp only [Bool.and_eq_true,Nat.beq_eq,Nat.ble_eq]at d;obtain ⟨⟨⟨rfl,E⟩,D⟩,e⟩:=d;obtain ⟨b,base,arr,H,fr,I,_⟩:=h.cells f
     cases C with
     | ptr _ _ _ b' base' sz' F=>
       have q:=VR.cells G (kZ e);obtain ⟨w',v,y⟩:=yZ (P:=P) (o:=base'+off) h f ⟨_,F⟩ (by omega) q e rfl;refine ⟨w',?_,y⟩
       have m:X.cells.size=k:=by rw [<-D,q.1];simp
       simp only [Instr.storeAt,Instr.sureAddr,storeVar,Sem.run_bind,Sem.run_pure,Result.andThen_ok,aX r,m,ne_eq,not_true_eq_false,if_false]
       simpa using v
  ·simp at l
 ·simp at l
theorem ZE {s s':Sto} {cs:List AV} {id:Nat} (h:oF s cs=some (id,s')):cs.all AV.isCell=true/\id=s.n/\s'=s.push (.cells 0 cs.length (Tr.leaf.lay 0 cs)):=by
 unfold oF at h
 cases a:cs.all AV.isCell with
 | false=>simp [a]at h
 | true=>simp [a]at h;exact ⟨rfl,h.1.symm,h.2.symm⟩
theorem vB {cs:List AV} {vs:List Value} {id:Nat} {l:Sto} {arr:Array Value} (m:TypeId) (fr:Nat × Nat) (h:Rel σ S w) (A:oF S cs=some (id,l)) (d:VRs σ cs vs)
 (v:vs.length<=arr.size) (c:∀ (i:Nat) V,vs[i]?=some V->arr[i]?=some V) (k:∀ o,o<arr.size->¬ (fr.1<=o/\o<fr.2)):
 ∃ τ,Stp σ S w τ l (w.alloc (.cells arr m fr))/\τ id 0=some (w.heap.size,0,arr.size):=by
 obtain ⟨q,rfl,rfl⟩:=ZE A
 have b:σ S.n 0=none:=by
  cases B:σ S.n 0 with
  | none=>rfl
  | some y=>exact absurd (h.bnd _ _ _ B) (Nat.lt_irrefl _)
 refine ⟨σ.upd S.n 0 (w.heap.size,0,arr.size),uF h rfl (.cells 0 _ _ arr m fr rfl (by rw [d.1];omega) (fun i a u f=>?_) k),Sg.upd_same _ _ _ _⟩;rw [Tr.get_lay]at f;simp only [Nat.zero_add,Nat.zero_le,u,and_self,if_true,Nat.sub_zero]at f;obtain ⟨V,r,e⟩:=d.get f;exact ⟨V,by rw [Nat.zero_add];exact c i V r,e.mono (Sg.le_upd _ b)⟩
theorem gQ (a:TypeId) (arr:Array Value):(newRow a arr).run P w=.ok ⟨w.heap.size,0,none⟩ (w.alloc (.cells arr a)):=by
 simp [newRow]
end
end Go.Abs
/-
 The abstract machine: operations that ask nothing of memory.
-/
namespace Go.Abs
theorem sM {α:Type} (xs:Array α) (i n:Nat):(xs.extract i (i+n)).toList=(xs.toList.drop i).take n:=by
 simp [Array.toList_extract,List.extract_eq_take_drop]
section
variable {P:Program} {σ:Sg} {S:Sto} {w:World}
theorem nX {t:TypeId} {cs:List AV} {c:Array Value} {off:Nat} {v:AV} (h:oR P t cs off=some v) (b:VRs σ cs c.toList):∃ V,(∀ w,(part t c off).run P w=.ok V w)/\VR σ v V:=by
 unfold oR at h;split at h
 ·rename_i n a e
  rw [lF]at h;split at h
  ·simp at h;subst h
   refine ⟨.agg (c.extract off (off+n)),fun w=>?_,VR.agg_iff.2 ⟨_,rfl,?_⟩⟩
   ·simp [part,gU a,aX e]
   ·rw [sM];exact b.slice off n
  ·simp at h
 ·rename_i a
  obtain ⟨V,f,d⟩:=b.get h;refine ⟨V,fun w=>?_,d⟩
  have:c[off]?=some V:=by simpa using f
  simp [part,gU a,this]
 ·simp at h
theorem GN {t:TypeId} {cs:List AV} {b o off:Nat} {v:AV} (h:vF P t cs off=some v) (C:VR σ (.pf (.agg cs)) (.pointer (some ⟨b,o,none⟩))):
 VR σ v (.pointer (some ⟨b,o+off,none⟩)):=by
 cases C with
 | pf _ _ _ r y=>
   unfold vF at h;split at h
   ·rename_i u e
    unfold oR at e;split at e
    ·rename_i n a B
     rw [a]at h;simp at h;subst h;rw [lF]at e;split at e
     ·rename_i A
      simp at e;subst e;refine .pf _ _ _ (fun i c V f m=>?_) (fun i d=>?_)
      ·simp only [AV.cells,bJ]at f
       have d:i<n:=by
        rcases Nat.lt_or_ge i n with k | k
        ·exact k
        ·rw [List.getElem?_eq_none (by simp;omega)]at f;cases f
       rw [List.getElem?_take,if_pos d,List.getElem?_drop]at f;exact r (off+i) c V f (by rw [<-Nat.add_assoc];exact m)
      ·simp only [AV.cells,bJ,List.length_take,List.length_drop]at d
       have:=y (off+i) (by simp [AV.cells];omega);rw [<-Nat.add_assoc]at this;exact this
     ·simp at e
    ·rename_i a
     rw [a]at h
     cases f:u.isCell with
     | false=>simp [f]at h
     | true=>
       simp [f]at h;subst h
       have l:u.cells=[u]:=by cases u<;>first | (simp [AV.isCell]at f;done) | rfl
       refine .pf _ _ _ (fun i c V d m=>?_) (fun i d=>?_)
       ·rw [l]at d
        cases i with
        | zero=>simp at d;subst d;exact r off u V (by simpa [AV.cells] using e) (by simpa using m)
        | succ i=>simp at d
       ·rw [l]at d
        have:i=0:=by simpa using d
        subst this
        have q:off<cs.length:=by
         rcases Nat.lt_or_ge off cs.length with k | k
         ·exact k
         ·rw [List.getElem?_eq_none k]at e;cases e
        simpa using y off (by simpa [AV.cells] using q)
    ·simp at e
   ·simp at h
theorem aDp {t:TypeId} {x v:AV} {X:Value} {f:Nat} (h:WN P t x f=some v) (k:VR σ x X):∃ V,(∀ w,(Instr.field t X f).run P w=.ok V w)/\VR σ v V:=by
 unfold WN at h;split at h
 ·rename_i fields cs e
  obtain ⟨l,rfl,a⟩:=VR.agg_iff.1 k;split at h
  ·rename_i m b
   obtain ⟨V,c,d⟩:=nX h a;refine ⟨V,fun w=>?_,d⟩;simp [Instr.field,aB e,b,asAgg,c]
  ·simp at h
 ·simp at h
theorem vW {t:TypeId} {a v:AV} {A:Value} {f:Nat} (h:bV P t a f=some v) (k:VR σ a A):∃ V,(∀ w,(Instr.fieldAt t A f).run P w=.ok V w)/\VR σ v V:=by
 unfold bV at h;split at h
 ·rename_i fields l
  split at h
  ·rename_i e d
   split at h
   ·rename_i n id g off c
    cases k with
    | ptr _ _ _ b base sz r=>
      simp at h;subst h;refine ⟨.pointer (some ⟨b,base+(off+e.offset),none⟩),fun w=>?_,.ptr _ _ _ _ _ _ r⟩;simp [Instr.fieldAt,aB l,d,Instr.sureAddr,fieldPlace,aX c,dI,Nat.add_assoc]
   ·rename_i n cs c
    cases k with
    | pf _ b o m q=>
      refine ⟨.pointer (some ⟨b,o+e.offset,none⟩),fun w=>?_,GN h (.pf _ _ _ m q)⟩;simp [Instr.fieldAt,aB l,d,Instr.sureAddr,fieldPlace,aX c,dI]
   ·simp at h
  ·simp at h
 ·simp at h
theorem vC {i:AV} {I:Value} {len n:Nat} (h:rV i len=some n) (b:VR σ i I):∃ k,I=.int k (n:Int)/\n<len:=by
 unfold rV at h;split at h
 ·rename_i k m
  rw [eI]at h;split at h
  ·rename_i a
   simp at h;subst h
   cases b with
   | int=>exact ⟨k,rfl,a⟩
  ·simp at h
 ·simp at h
theorem HQ {t:TypeId} {x i v:AV} {X I:Value} (h:bW P t x i=some v) (y:VR σ x X) (r:VR σ i I):∃ V,(∀ w,(Instr.indexAt t X I).run P w=.ok V w)/\VR σ v V:=by
 unfold bW at h;split at h
 ·rename_i len e id g off m
  split at h
  ·rename_i n k l f
   obtain ⟨kk,rfl,d⟩:=vC l r;simp at h;subst h
   cases y with
   | ptr _ _ _ b base sz D=>
     refine ⟨.pointer (some ⟨b,base+(off+n*k),none⟩),fun w=>?_,.ptr _ _ _ _ _ _ D⟩;simp [Instr.indexAt,asIntOf,aB m,Instr.sureAddr,d,aX f,dI,Nat.add_assoc]
  ·simp at h
 ·rename_i len e cs m
  split at h
  ·rename_i n k l f
   obtain ⟨kk,rfl,d⟩:=vC l r
   cases y with
   | pf _ b o A F=>
     refine ⟨.pointer (some ⟨b,o+n*k,none⟩),fun w=>?_,GN h (.pf _ _ _ A F)⟩;simp [Instr.indexAt,asIntOf,aB m,Instr.sureAddr,d,aX f,dI]
  ·simp at h
 ·rename_i e id g off len cap m
  split at h
  ·rename_i n k l f
   obtain ⟨kk,rfl,d⟩:=vC l r;simp at h;subst h
   cases y with
   | sl _ _ _ _ _ b base sz C D U G=>
     refine ⟨.pointer (some ⟨b,base+(off+n*k),none⟩),fun w=>?_,.ptr _ _ _ _ _ _ D⟩;simp [Instr.indexAt,asIntOf,aB m,d,aX f,dI,Nat.add_assoc]
  ·simp at h
 ·rename_i e xs E m
  split at h
  ·rename_i n k l f
   obtain ⟨kk,rfl,d⟩:=vC l r;split at h
   ·rename_i u q
    rw [eQ]at h;split at h
    ·rename_i H
     simp at h;subst h
     cases y with
     | fz _ _ a C b o J A F T L M N=>
       have Q:=A (by omega);subst Q
       have B:J=k:=by rw [<-H];exact (L u (List.mem_of_getElem? q)).symm
       subst B;refine ⟨.pointer (some ⟨b,o+n*J,none⟩),fun w=>?_,.pf _ _ _ (fun j c V G O=>M n j u c V q G O) (fun j R=>N n j d (by rw [<-H];exact R))⟩;simp [Instr.indexAt,asIntOf,aB m,d,aX f,dI]
    ·simp at h
   ·simp at h
  ·simp at h
 ·simp at h
theorem aDq {t:TypeId} {x i v:AV} {X I:Value} (h:rW P t x i=some v) (y:VR σ x X) (u:VR σ i I):∃ V,(∀ w,(Instr.index t X I).run P w=.ok V w)/\VR σ v V:=by
 unfold rW at h;split at h
 ·rename_i len e cs o
  split at h
  ·rename_i n k l m
   obtain ⟨kk,rfl,a⟩:=vC l u;obtain ⟨F,rfl,f⟩:=VR.agg_iff.1 y;obtain ⟨V,A,C⟩:=nX h f;refine ⟨V,fun w=>?_,C⟩;simp [Instr.index,asIntOf,aB o,a,aX m,A]
  ·simp at h
 ·rename_i s o
  split at h
  ·rename_i n l
   obtain ⟨kk,rfl,a⟩:=vC l u;split at h
   ·rename_i b r
    simp at h;subst h
    cases y with
    | str _ d E=>
      subst E;rw [List.getElem?_map]at r;obtain ⟨B,q,rfl⟩:=Option.map_eq_some_iff.1 r;rw [List.length_map,Array.length_toList]at a;have c:n<d.size:=a
      have D:d[n]?=some B:=by
       rw [getElem?_pos d n c];rw [Array.getElem?_toList,Array.getElem?_eq_getElem a]at q;exact q
      refine ⟨.int .u8 B.toNat,fun w=>?_,.int _ _⟩;simp [Instr.index,asIntOf,aB o,D]
   ·simp at h
  ·simp at h
 ·simp at h
end
end Go.Abs
/-
 The abstract machine: slices,comparisons,arithmetic.
-/
namespace Go.Abs
section
variable {P:Program} {σ:Sg} {S:Sto} {w:World}
def VRo (σ:Sg):Option AV->Option Value->Prop
 | none,none=>True
 | some a,some A=>VR σ a A
 | _,_=>False
theorem VRo.map {α:Type} (f:α->AV) (F:α->Value) (x:Option α) (h:∀ a,VR σ (f a) (F a)):VRo σ (x.map f) (x.map F):=by
 cases x with
 | none=>trivial
 | some a=>exact h a
theorem nG {x:AV} {X:Value} {d a n:Nat} (h:fQ (some x) d a=some n) (f:VR σ x X):∃ k,X=.int k (n:Int)/\n<=a:=by
 unfold fQ at h;split at h
 ·rename_i e;cases e
 ·rename_i k i c
  rw [lF]at h;split at h
  ·rename_i b
   simp at h;subst h;obtain rfl:=Option.some.inj c
   cases f with
   | int=>exact ⟨_,rfl,b⟩
  ·simp at h
 ·simp at h
theorem cS (k:IntKind) (n y:Nat) (a:BoundsCode) (h:n<=y) (w:World):(Instr.sliceBound (.int k (n:Int)) y a).run P w=.ok n w:=by
 have:(0:Int)<=(n:Int)/\(n:Int)<=(y:Int):=by omega
 simp [Instr.sliceBound,asIntOf,h]
theorem vD {d a n:Nat} (h:fQ none d a=some n):n=d:=by simp [fQ]at h;exact h.symm
theorem rS {isS:Bool} {len cap b h l:Nat} {lo r:Option AV} {c m:Option Value} (u:fQ r len b=some h) (o:fQ lo 0 h=some l) (v:b<=cap)
 (q:VRo σ r m) (d:VRo σ lo c) (w:World):(Instr.sliceBounds isS len cap c m none).run P w=.ok (l,h,cap) w/\l<=h/\(h<=b∨h=len):=by
 cases r with
 | none=>
   cases m with
   | some V=>exact q.elim
   | none=>
     obtain rfl:=vD u
     cases lo with
     | none=>
       cases c with
       | some V=>exact d.elim
       | none=>obtain rfl:=vD o;exact ⟨by simp [Instr.sliceBounds],Nat.zero_le _,.inr rfl⟩
     | some x=>
       cases c with
       | none=>exact d.elim
       | some V=>
         obtain ⟨k,rfl,a⟩:=nG o d;exact ⟨by simp [Instr.sliceBounds,cS _ _ _ _ a],a,.inr rfl⟩
 | some y=>
   cases m with
   | none=>exact q.elim
   | some Y=>
     obtain ⟨A,rfl,f⟩:=nG u q
     have e:h<=cap:=by omega
     cases lo with
     | none=>
       cases c with
       | some V=>exact d.elim
       | none=>obtain rfl:=vD o;exact ⟨by simp [Instr.sliceBounds,cS _ _ _ _ e],Nat.zero_le _,.inl f⟩
     | some x=>
       cases c with
       | none=>exact d.elim
       | some V=>
         obtain ⟨k,rfl,a⟩:=nG o d;exact ⟨by simp [Instr.sliceBounds,cS _ _ _ _ a,cS _ _ _ _ e],a,.inl f⟩
theorem NK {isS:Bool} {len cap a h l c:Nat} {m v:AV} {lo:Option AV} {M r:Value} {o:Option Value} (C:fQ (some m) 0 a=some c) (B:fQ (some v) 0 c=some h) (u:fQ lo 0 h=some l)
 (D:a<=cap) (y:VR σ m M) (A:VR σ v r) (q:VRo σ lo o) (w:World):(Instr.sliceBounds isS len cap o (some r) (some M)).run P w=.ok (l,h,c) w/\l<=h/\h<=c/\c<=a:=by
 obtain ⟨F,rfl,e⟩:=nG C y;obtain ⟨E,rfl,b⟩:=nG B A
 have d:c<=cap:=by omega
 cases lo with
 | none=>
   cases o with
   | some V=>exact q.elim
   | none=>obtain rfl:=vD u;exact ⟨by simp [Instr.sliceBounds,cS _ _ _ _ d,cS _ _ _ _ b],Nat.zero_le _,b,e⟩
 | some x=>
   cases o with
   | none=>exact q.elim
   | some V=>
     obtain ⟨k,rfl,f⟩:=nG u q;exact ⟨by simp [Instr.sliceBounds,cS _ _ _ _ f,cS _ _ _ _ d,cS _ _ _ _ b],f,b,e⟩
theorem cD {l:List Nat} {V:Value} (h:VR σ (.str l) V):∃ a:ByteArray,V=.string a/\a.data.toList.map (·.toNat)=l:=by
 cases h with
 | str _ a b=>exact ⟨a,rfl,b⟩
theorem qJ {a:ByteArray} {l:List Nat} (h:a.data.toList.map (·.toNat)=l):a.size=l.length:=by
 rw [<-h,List.length_map,Array.length_toList];rfl
theorem dS {t e:TypeId} {k:Nat} (q:P.underlying t=some (.slice e)) (o:qP P e=some k) {a:Option Addr} {len cap:Nat} {c b d:Option Value} {l h m:Nat}
 (f:(Instr.sliceBounds true len cap c b d).run P w=.ok (l,h,m) w):
 (Instr.sliceAt t (.slice a len cap) c b d).run P w=.ok (.slice (if m=l then a else a.map (·.add (l*k))) (h-l) (m-l)) w:=by
 simp only [Instr.sliceAt,Instr.slice,Sem.run_bind,aB q,Result.andThen_ok,f,aX o,Sem.run_pure]
theorem VR.fz_slice {k:Nat} {xs:List AV} {d clip':Bool} {X:Value} {l h m:Nat} (e:VR σ (.fz xs d) X) (r:xs.all (fun v=>Nat.beq v.cells.length k)=true) (aa:l<=h) (hh:h<=xs.length):
 ∃ a C,X=.slice (some a) xs.length C/\xs.length<=C/\(d=true->C=xs.length)/\(h<=m->(clip'=true->m=h)->VR σ (.fz (bJ xs l (h-l)) clip') (.slice (if m=l then some a else (some a).map (·.add (l*k))) (h-l) (m-l))):=by
 cases e with
 | fz _ _ a C b o F O Q R J T U=>
   refine ⟨a,C,rfl,Q,R,fun hm L=>?_⟩
   have B:(bJ xs l (h-l)).length=h-l:=by simp [bJ];omega
   have u:∀ (i:Nat) x,(bJ xs l (h-l))[i]?=some x->xs[l+i]?=some x/\i<h-l:=by
    intro i x y
    have A:i<h-l:=by
     rcases Nat.lt_or_ge i (h-l) with I | I
     ·exact I
     ·rw [List.getElem?_eq_none (by omega)]at y;cases y
    rw [bJ,List.getElem?_take,if_pos A,List.getElem?_drop]at y;exact ⟨y,A⟩
   by_cases N:h-l=0
   ·have D:bJ xs l (h-l)=[]:=List.eq_nil_of_length_eq_zero (by omega)
    rw [D,N]
    have E:∀ q:Addr,VR σ (.fz [] clip') (.slice (some q) 0 (m-l)):=fun q=>.fz [] clip' q _ 0 0 0 (by simp) (by simp) (fun f=>by have:=L f;simp;omega) (by simp) (by simp) (by simp)
    split
    ·exact E a
    ·exact E _
   ·have H:F=k:=by
     have:∃ x,x∈xs:=⟨xs[l]'(by omega),List.getElem_mem _⟩
     obtain ⟨x,e⟩:=this;have e1:=J x e;have M:=List.all_eq_true.1 r x e;rw [Nat.beq_eq]at M;omega
    subst H;have Z:=O (by omega);subst Z;rw [if_neg (by omega)]
    have:=VR.fz (σ:=σ) (bJ xs l (h-l)) clip' ⟨b,o+l*F,none⟩ (m-l) b (o+l*F) F (fun _=>rfl) (by omega) (fun f=>by have:=L f;omega)
     (fun x e=>J x (List.mem_of_mem_drop (List.mem_of_mem_take e)))
     (fun i j x c V e G Y=>T (l+i) j x c V (u i x e).1 G (by rw [Nat.add_mul,<-Nat.add_assoc];exact Y))
     (fun i j y hj=>by
       have:=U (l+i) j (by omega) hj
       rw [Nat.add_mul,<-Nat.add_assoc]at this;exact this)
    rw [B]at this
    simpa [dI] using this
theorem WJ {t e:TypeId} {k:Nat} (I:P.underlying t=some (.slice e)) (H:qP P e=some k) {x v:AV} {lo hi mx:Option AV} {X:Value} {LO U F:Option Value} (h:oS k x lo hi mx=some v) (J:VR σ x X)
 (u:VRo σ lo LO) (f:VRo σ hi U) (l:VRo σ mx F):∃ V,(∀ w,(Instr.sliceAt t X LO U F).run P w=.ok V w)/\VR σ v V:=by
 unfold oS at h;split at h
 ·-- nils
  cases F with
  | some _=>exact l.elim
  | none=>
    split at h
    ·rename_i B y
     split at h
     ·rename_i D A
      simp at h;subst h
      cases J with
      | nils=>
        refine ⟨.slice none 0 0,fun w=>?_,.nils⟩;obtain ⟨T,Z,h5⟩:=rS (P:=P) (isS:=true) (cap:=0) y A (Nat.le_refl _) f u w
        have ac:B=0:=by omega
        have af:D=0:=by omega
        subst ac;subst af;rw [dS I H T];rfl
     ·simp at h
    ·simp at h
 ·cases F with
  | none=>exact l.elim
  | some M=>
    split at h
    ·rename_i c hv y
     cases U with
     | none=>exact f.elim
     | some HV=>
       split at h
       ·rename_i B Y
        split at h
        ·rename_i D A
         simp at h;subst h
         cases J with
         | nils=>
           refine ⟨.slice none 0 0,fun w=>?_,.nils⟩;obtain ⟨T,Z,h5,h6⟩:=NK (P:=P) (isS:=true) (len:=0) (cap:=0) y Y A (Nat.le_refl _) l f u w
           obtain ⟨rfl,rfl,rfl⟩:c=0/\B=0/\D=0:=by omega
           rw [dS I H T];rfl
        ·simp at h
       ·simp at h
    ·simp at h
 ·rename_i xs c
  cases F with
  | some _=>exact l.elim
  | none=>
    split at h
    ·rename_i B y
     split at h
     ·rename_i D A
      cases d:xs.all (fun v=>Nat.beq v.cells.length k) with
      | false=>simp [d]at h
      | true=>
        simp only [d,cond_true,Option.some.injEq]at h;subst h
        have o:=fun (C:Nat) (hC:xs.length<=C) (w:World)=>rS (P:=P) (isS:=true) (cap:=C) y A hC f u w
        have ad:=o xs.length (Nat.le_refl _) default
        have ae:B<=xs.length:=by omega
        obtain ⟨a,C,rfl,h2,T,Z⟩:=VR.fz_slice (m:=(match X with | .slice _ _ C=>C | _=>0)) (clip':=c&&Nat.beq B xs.length) J d ad.2.1 ae;refine ⟨_,fun w=>dS I H (o C h2 w).1,Z (by show B<=C;omega) (fun E=>?_)⟩;simp only [Bool.and_eq_true,Nat.beq_eq]at E;show C=B;rw [T E.1,E.2]
     ·simp at h
    ·simp at h
 ·rename_i xs c0 m
  cases F with
  | none=>exact l.elim
  | some M=>
    split at h
    ·rename_i c hv y
     cases U with
     | none=>exact f.elim
     | some HV=>
       split at h
       ·rename_i B Y
        split at h
        ·rename_i D A
         cases d:xs.all (fun v=>Nat.beq v.cells.length k) with
         | false=>simp [d]at h
         | true=>
           simp only [d,cond_true,Option.some.injEq]at h;subst h
           have o:=fun (C:Nat) (hC:xs.length<=C) (w:World)=>NK (P:=P) (isS:=true) (len:=xs.length) (cap:=C) y Y A hC l f u w
           obtain ⟨_,q1,L,q3⟩:=o xs.length (Nat.le_refl _) default;obtain ⟨a,C,rfl,h2,T,Z⟩:=VR.fz_slice (m:=c) (clip':=Nat.beq B c) J d q1 (by omega);exact ⟨_,fun w=>dS I H (o C h2 w).1,Z L (fun E=>(Nat.eq_of_beq_eq_true E).symm)⟩
        ·simp at h
       ·simp at h
    ·simp at h
 ·rename_i id g off len c
  cases F with
  | some _=>exact l.elim
  | none=>
    split at h
    ·rename_i B y
     split at h
     ·rename_i D A
      simp only [Option.some.injEq]at h
      cases J with
      | sl _ _ _ _ _ b base sz C G hl E=>
        have hC:C=c:=E;subst hC
        have o:=fun (w:World)=>rS (P:=P) (isS:=true) (cap:=C) y A (Nat.le_refl _) f u w
        obtain ⟨_,q1,L⟩:=o default;refine ⟨_,fun w=>dS I H (o w).1,?_⟩;rw [eQ]at h;split at h
        ·rename_i N;subst h
         rw [if_pos N];exact .sl _ _ _ _ _ _ _ _ _ G (by omega) rfl
        ·rename_i N;subst h
         rw [if_neg N];simp only [Option.map_some,dI,Nat.add_assoc];exact .sl _ _ _ _ _ _ _ _ _ G (by omega) rfl
     ·simp at h
    ·simp at h
 ·rename_i id g off len r
  cases F with
  | some _=>exact l.elim
  | none=>
    split at h
    ·rename_i B y
     split at h
     ·rename_i D A
      rw [eQ]at h;split at h
      ·rename_i O;subst O
       cases J with
       | sl _ _ _ _ _ b base sz C G hl E=>
         have o:=fun (w:World)=>rS (P:=P) (isS:=true) (cap:=C) y A hl f u w
         obtain ⟨_,q1,L⟩:=o default;refine ⟨_,fun w=>dS I H (o w).1,?_⟩;have R:base+off+C*k<=sz:=E;rw [eI]at h;split at h
         ·rename_i ag
          simp at h;subst h;rw [if_neg (by omega)];simp only [Option.map_some,dI,Nat.add_assoc];refine .sl _ _ _ _ _ _ _ _ _ G (by omega) (rT ?_ (by omega))
          have:(C-D)*k+D*k=C*k:=by rw [<-Nat.add_mul];congr 1;omega
          omega
         ·rename_i ah
          simp at h;subst h
          have h0:B-D=0:=by omega
          rw [h0]
          have aa:∀ q:Addr,VR σ (.fz [] false) (.slice (some q) 0 (C-D)):=fun q=>.fz [] false q _ 0 0 0 (by simp) (by simp) (by simp) (by simp) (by simp) (by simp)
          split
          ·exact aa _
          ·exact aa _
      ·simp at h
     ·simp at h
    ·simp at h
 ·rename_i id g off len r c
  cases F with
  | some _=>exact l.elim
  | none=>
    split at h
    ·rename_i B y
     split at h
     ·rename_i D A
      rw [eQ]at h;split at h
      ·rename_i O;subst O
       cases J with
       | sl _ _ _ _ _ b base sz C G hl E=>
         obtain ⟨ab,R⟩:c<=C/\base+off+C*k<=sz:=E
         have o:=fun (w:World)=>rS (P:=P) (isS:=true) (cap:=C) y A ab f u w
         obtain ⟨_,q1,L⟩:=o default;refine ⟨_,fun w=>dS I H (o w).1,?_⟩;rw [eI]at h;split at h
         ·rename_i ag
          simp at h;subst h;rw [if_neg (by omega)];simp only [Option.map_some,dI,Nat.add_assoc];refine .sl _ _ _ _ _ _ _ _ _ G (by rcases L with L | L<;>omega) (rT ?_ (by omega))
          have:(C-D)*k+D*k=C*k:=by rw [<-Nat.add_mul];congr 1;omega
          omega
         ·
          simp at h
      ·simp at h
     ·simp at h
    ·simp at h
 ·rename_i id g off len cc m
  cases F with
  | none=>exact l.elim
  | some M=>
    split at h
    ·rename_i c' hv y
     cases U with
     | none=>exact f.elim
     | some HV=>
       split at h
       ·rename_i B Y
        split at h
        ·rename_i D A
         simp only [Option.some.injEq]at h
         cases J with
         | sl _ _ _ _ _ b base sz C G hl E=>
           have Q:DA len cc<=C:=by
            cases cc with
            | is c=>have:C=c:=E;simp [DA];omega
            | room r=>simpa [DA] using hl
            | least r c=>exact E.1
           have o:=fun (w:World)=>NK (P:=P) (isS:=true) (len:=len) (cap:=C) y Y A Q l f u w
           obtain ⟨_,q1,L,q3⟩:=o default;refine ⟨_,fun w=>dS I H (o w).1,?_⟩;rw [eQ]at h;split at h
           ·rename_i N;subst h
            rw [if_pos N];exact .sl _ _ _ _ _ _ _ _ _ G (by omega) rfl
           ·rename_i N;subst h
            rw [if_neg N];simp only [Option.map_some,dI,Nat.add_assoc];exact .sl _ _ _ _ _ _ _ _ _ G (by omega) rfl
        ·simp at h
       ·simp at h
    ·simp at h
 ·simp at h
theorem aDr {t:TypeId} {x v:AV} {lo G H:Option AV} {X:Value} {E D o:Option Value} (h:dQ P t x lo G H=some v) (C:VR σ x X)
 (c:VRo σ lo E) (a:VRo σ G D) (d:VRo σ H o):∃ V,(∀ w,(Instr.sliceAt t X E D o).run P w=.ok V w)/\VR σ v V:=by
 unfold dQ at h;split at h
 ·-- string
  rename_i m;split at h
  ·rename_i s
   cases o with
   | some _=>exact d.elim
   | none=>
     split at h
     ·rename_i y q
      split at h
      ·rename_i f r
       simp at h;subst h;obtain ⟨I,rfl,l⟩:=cD C;have B:=qJ l;refine ⟨.string (I.extract f y),fun w=>?_,.str _ _ ?_⟩
       ·have:=(rS (P:=P) (isS:=false) (cap:=s.length) q r (Nat.le_refl _) a c w).1
        simp only [Instr.sliceAt,Instr.slice,Sem.run_bind,aB m,Result.andThen_ok,Option.isSome_none,Bool.false_eq_true,if_false,Sem.run_pure,B];simp [this]
       ·rw [Lib.extract_data,<-l,bJ,List.map_take,List.map_drop]
      ·simp at h
     ·simp at h
  ·simp at h
 ·rename_i e m
  split at h
  ·rename_i k A
   exact WJ m A h C c a d
  ·simp at h
 ·rename_i n e m
  split at h
  ·rename_i id g off k A
   cases o with
   | some _=>exact d.elim
   | none=>
     split at h
     ·rename_i y q
      split at h
      ·rename_i f r
       simp only [Option.some.injEq]at h
       cases C with
       | ptr _ _ _ b base sz l=>
         have F:=fun (w:World)=>rS (P:=P) (isS:=false) (cap:=n) q r (Nat.le_refl _) a c w
         obtain ⟨_,J,L⟩:=F default;refine ⟨.slice (some (if n=f then ⟨b,base+off,none⟩ else ⟨b,base+off+f*k,none⟩)) (y-f) (n-f),fun w=>?_,?_⟩
         ·simp [Instr.sliceAt,aB m,Instr.sureAddr,(F w).1,aX A,dI]
         ·rw [eQ]at h
          split at h
          ·rename_i u;subst h
           rw [if_pos u];exact .sl _ _ _ _ _ _ _ _ _ l (by omega) rfl
          ·rename_i u;subst h
           rw [if_neg u,Nat.add_assoc];exact .sl _ _ _ _ _ _ _ _ _ l (by omega) rfl
      ·simp at h
     ·simp at h
  ·simp at h
 ·simp at h
end
end Go.Abs
/-
 The abstract machine: comparisons,arithmetic,strings.
-/
namespace Go.Abs
theorem fD (a b:Int):mC a b=(a==b):=by
 cases a<;>cases b<;>simp [mC]
 all_goals (rw [Bool.eq_iff_iff];simp;try omega)
theorem vE {α:Type} (n:Int) (k:Int->α):NM n k=k n:=by
 unfold NM
 cases n with
 | ofNat m=>cases m<;>rfl
 | negSucc m=>cases m<;>rfl
theorem jY (k:IntKind) (n:Int):mJ k n=some (.int k n):=by unfold mJ;rw [vE]
theorem kY (b:Bool):xA b=some (.bool b):=by cases b<;>rfl
theorem oP {α:Type} (p:Prop) [Decidable p] (x y:α):(bif decide p then x else y)=if p then x else y:=by
 by_cases h:p<;>simp [h]
theorem zB:∀ (a b:List UInt8),fP Nat.beq (a.map (·.toNat)) (b.map (·.toNat))=(a==b):=by
 intro a
 induction a with
 | nil=>intro b;cases b<;>simp [fP]
 | cons x a c=>
   intro b
   cases b with
   | nil=>simp [fP]
   | cons y b=>
     simp only [List.map_cons,fP,c,List.cons_beq_cons]
     congr 1
     rw [Bool.eq_iff_iff];simp [UInt8.toNat_inj]
theorem RR:∀ (a b:List UInt8),mV (a.map (·.toNat)) (b.map (·.toNat))=Op.bytesLess a b:=by
 intro a
 induction a with
 | nil=>intro b;cases b<;>simp [mV,Op.bytesLess]
 | cons x a c=>
   intro b
   cases b with
   | nil=>simp [mV,Op.bytesLess]
   | cons y b=>
     simp only [List.map_cons,mV,Op.bytesLess,c]
     congr 1
     ·rw [Bool.eq_iff_iff];simp [Nat.blt_eq,UInt8.lt_iff_toNat_lt]
     ·congr 1
      rw [Bool.eq_iff_iff];simp [UInt8.toNat_inj]
section
variable {P:Program} {σ:Sg} {S:Sto} {w:World}
theorem RS {f:TypeId->AV->AV->Option Bool} {d:Nat} (A:∀ t x y r X Y,f t x y=some r->VR σ x X->VR σ y Y->∀ w,(Op.equalIn d t X Y).run P w=.ok r w)
 {xs C:List AV} {o q:Array Value} (D:VRs σ xs o.toList) (E:VRs σ C q.toList) (w:World):∀ (fs:List Field) (r:Bool),
 aeqs P f xs C ((fs.filter fun f=>f.name != "_").map fun f=>(f.type,f.offset))=some r->(Op.eqFields d o q fs).run P w=.ok r w:=by
 intro fs
 induction fs with
 | nil=>intro r h;simp [aeqs]at h;subst h;simp [Op.eqFields]
 | cons e fs B=>
   intro r h;by_cases c:e.name = "_"
   ·have:(e.name != "_")=false:=by simp [c]
    rw [List.filter_cons,this]at h;simp only [Bool.false_eq_true,if_false]at h;simp only [Op.eqFields,ne_eq,c,not_true_eq_false,if_false];exact B r h
   ·have:(e.name != "_")=true:=by simpa using c
    rw [List.filter_cons,this]at h;simp only [if_true,List.map_cons,aeqs]at h;split at h
    ·rename_i x y k l
     obtain ⟨X,u,a⟩:=nX k D;obtain ⟨Y,v,b⟩:=nX l E;split at h
     ·rename_i m
      have:=A _ _ _ _ X Y m a b w;simp only [Op.eqFields,ne_eq,c,not_false_eq_true,if_true,Sem.run_bind,u,v,Result.andThen_ok,this,Bool.not_true,Bool.false_eq_true,if_false];exact B r h
     ·rename_i m
      have:=A _ _ _ _ X Y m a b w;simp at h;subst h;simp [Op.eqFields,c,u,v,this]
     ·simp at h
    ·simp at h
def oQ (d:Nat) (elem:TypeId) (n:Nat) (xs ys:Array Value):List Nat->Sem Bool
 | []=>pure true
 | i::l=>do
   let a <-part elem xs (i*n)
   let b <-part elem ys (i*n)
   let r <-Op.equalIn d elem a b
   if (!r)=true then pure false else oQ d elem n xs ys l
theorem zC (d:Nat) (t elem:TypeId) (len n:Nat) (xs ys:Array Value) (hu:P.underlying t=some (.array len elem)) (hn:qP P elem=some n) (w:World):
 (Op.equalIn (d+1) t (.agg xs) (.agg ys)).run P w=(oQ d elem n xs ys (List.range' 0 len)).run P w:=by
 simp only [Op.equalIn,Sem.run_bind,aB hu,Result.andThen_ok,aX hn];rw [Std.Legacy.Range.forIn_eq_forIn_range'];simp only [Std.Legacy.Range.size,Nat.sub_zero,Nat.add_sub_cancel,Nat.div_one];generalize List.range' 0 len=l;clear hu
 induction l generalizing w with
 | nil=>simp [oQ]
 | cons i l ih=>
   simp only [List.forIn_cons,oQ,Sem.run_bind,Sem.run_ite];generalize (part elem xs (i*n)).run P w=r1
   cases r1 with
   | ok a w1=>
     simp only [Result.andThen_ok];generalize (part elem ys (i*n)).run P w1=r2
     cases r2 with
     | ok b w2=>
       simp only [Result.andThen_ok];generalize (Op.equalIn d elem a b).run P w2=r3
       cases r3 with
       | ok r w3=>
         cases r
         ·simp only [Result.andThen_ok,Bool.not_false,if_true,Sem.run_pure]
         ·simp only [Result.andThen_ok,Bool.not_true,Bool.false_eq_true,if_false,Sem.run_pure]
          exact ih w3
       | halt x w3=>simp [Result.andThen]
     | halt x w2=>simp [Result.andThen]
   | halt x w1=>simp [Result.andThen]
theorem WK {f:TypeId->AV->AV->Option Bool} {d:Nat} (hf:∀ t x y r X Y,f t x y=some r->VR σ x X->VR σ y Y->∀ w,(Op.equalIn d t X Y).run P w=.ok r w)
 {xs ys:List AV} {Xs Ys:Array Value} (hx:VRs σ xs Xs.toList) (hy:VRs σ ys Ys.toList) (e k:Nat) (w:World):∀ (n i:Nat) (r:Bool),
 aeqs P f xs ys (lA e k n i)=some r->(oQ d e k Xs Ys (List.range' i n)).run P w=.ok r w:=by
 intro n
 induction n with
 | zero=>intro i r h;simp [aeqs,lA]at h;subst h;simp [oQ]
 | succ n ih=>
   intro i r h;simp only [lA,aeqs]at h;split at h
   ·rename_i x y hax hay
    obtain ⟨X,hX,hXR⟩:=nX hax hx;obtain ⟨Y,hY,hYR⟩:=nX hay hy;split at h
    ·rename_i hr
     have:=hf _ _ _ _ X Y hr hXR hYR w;simp only [List.range'_succ,oQ,Sem.run_bind,hX,hY,Result.andThen_ok,this,Bool.not_true,Bool.false_eq_true,if_false];exact ih _ r h
    ·rename_i hr
     have:=hf _ _ _ _ X Y hr hXR hYR w;simp at h;subst h;simp [List.range'_succ,oQ,hX,hY,this]
    ·simp at h
   ·simp at h
theorem AS {u:Option TypeDesc} {x y:AV} {r:Bool} {X Y:Value} (h:aKe u x y=some r) (b:VR σ x X) (c:VR σ y Y):r=false/\(∃ e,u=some (.slice e))/\
 ((∃ a n C,X=.slice none 0 0/\Y=.slice (some a) n C)∨∃ a n C,Y=.slice none 0 0/\X=.slice (some a) n C):=by
 unfold aKe at h;split at h
 ·simp at h;subst h
  cases b;cases c;exact ⟨rfl,⟨_,rfl⟩,.inl ⟨_,_,_,rfl,rfl⟩⟩
 ·simp at h;subst h
  cases c;cases b;exact ⟨rfl,⟨_,rfl⟩,.inr ⟨_,_,_,rfl,rfl⟩⟩
 ·cases h
set_option maxHeartbeats 1000000 in
theorem aRv:∀ (d:Nat) (t:TypeId) (x y:AV) (r:Bool) (X Y:Value),SB P d t x y=some r->VR σ x X->VR σ y Y->∀ w,(Op.equalIn d t X Y).run P w=.ok r w:=by
 intro d
 induction d with
 | zero=>intro t x y r X Y h;simp [SB]at h
 | succ d H=>
   intro t x y r X Y h c f w;simp only [SB]at h;split at h
   ·rename_i b;cases c;cases f;simp at h;subst h;simp [Op.equalIn,aB b]
   ·rename_i b;cases c;cases f
    rw [oP]at h;split at h
    ·rename_i E;subst E;simp at h;subst h;simp [Op.equalIn,aB b,fD]
    ·simp at h
   ·rename_i b
    obtain ⟨I,rfl,B⟩:=cD c;obtain ⟨J,rfl,D⟩:=cD f;simp at h;subst h;rw [run_equalIn_string w d t I J b,<-B,<-D,zB,ByteArray.toList_eq,ByteArray.toList_eq]
   ·rename_i b;cases c;cases f;simp at h;subst h;simp [Op.equalIn,aB b]
   ·rename_i b;cases c;cases f;simp at h;subst h;simp [Op.equalIn,aB b]
   ·rename_i b;cases c;cases f;simp at h;subst h;simp [Op.equalIn,aB b]
   ·rename_i b;cases c;cases f;simp at h;subst h;simp [Op.equalIn,aB b]
   ·rename_i b;cases c;cases f;simp at h;subst h;simp [Op.equalIn,aB b]
   ·rename_i b;cases c;cases f;simp at h;subst h;simp [Op.equalIn,aB b]
   ·rename_i b;cases c;cases f;simp at h;subst h;simp [Op.equalIn,aB b]
   ·rename_i b;cases c;cases f;simp at h;subst h;simp [Op.equalIn,aB b]
   ·rename_i b;cases c;cases f;simp at h;subst h;simp [Op.equalIn,aB b]
   ·rename_i b;cases c;cases f;simp at h;subst h;simp [Op.equalIn,aB b]
   ·rename_i b;cases c;cases f;simp at h;subst h;simp [Op.equalIn,aB b]
   ·rename_i b;cases c;cases f;simp at h;subst h;simp [Op.equalIn,aB b]
   ·rename_i b;cases c;cases f;simp at h;subst h;simp [Op.equalIn,aB b]
   ·rename_i b;cases c;cases f;simp at h;subst h;simp [Op.equalIn,aB b]
   ·rename_i b;cases c;cases f;simp at h;subst h;simp [Op.equalIn,aB b]
   ·rename_i b;cases c;cases f;simp at h;subst h;simp [Op.equalIn,aB b]
   ·rename_i b;cases c;cases f;simp at h;subst h;simp [Op.equalIn,aB b]
   ·rename_i fields xs L b
    obtain ⟨o,rfl,l⟩:=VR.agg_iff.1 c;obtain ⟨q,rfl,m⟩:=VR.agg_iff.1 f
    cases F:P.stoodInHeld t with
    | true=>simp [F]at h
    | false=>
      simp only [F,cond_false]at h
      have G:P.fieldsOf t=fields:=by simp [Program.fieldsOf,b]
      rw [run_equalIn_struct w d t o q (by rw [G];exact b) F,G];exact RS (fun t x y r X Y u v A=>H t x y r X Y u v A) l m w _ _ h
   ·rename_i n e xs L b
    obtain ⟨o,rfl,l⟩:=VR.agg_iff.1 c;obtain ⟨q,rfl,m⟩:=VR.agg_iff.1 f;split at h
    ·rename_i k E
     rw [zC d t e n k o q b E w];exact WK (fun t x y r X Y u v A=>H t x y r X Y u v A) l m e k w n 0 r h
    ·simp at h
   ·obtain ⟨rfl,⟨e,b⟩,⟨a,n,C,rfl,rfl⟩ | ⟨a,n,C,rfl,rfl⟩⟩:=AS h c f
    ·simp [Op.equalIn,aB b]
    ·simp [Op.equalIn,aB b]
theorem uE (op:BinOp) (t:TypeId) (x y:Operand) (k c:IntKind) (a b:Int) (w:World):(eqGuard op t x y (.int k a) (.int c b)).run P w=.ok () w:=by
 cases op<;>simp [eqGuard]
theorem RT (op:BinOp) (t:TypeId) (x y:Operand) (a b:ByteArray) (w:World):(eqGuard op t x y (.string a) (.string b)).run P w=.ok () w:=by
 cases op<;>simp [eqGuard]
theorem aDs {op:BinOp} {k:IntKind} {a b:Int} {v:AV} (h:nZ op k a b=some v) (d:op≠.shl) (e:op≠.shr) (t:TypeId):∃ V,(∀ w,(binOp op t (.int k a) (.int k b)).run P w=.ok V w)/\VR σ v V:=by
 cases op<;>simp only [nZ,jY,kY,Option.some.injEq,oP,reduceCtorEq]at h
 ·subst h;exact ⟨_,fun w=>by simp [binOp,Op.intArith],.int _ _⟩
 ·subst h;exact ⟨_,fun w=>by simp [binOp,Op.intArith],.int _ _⟩
 ·subst h;exact ⟨_,fun w=>by simp [binOp,Op.intArith],.int _ _⟩
 ·split at h
  ·simp at h
  ·rename_i c;simp at h;subst h;exact ⟨_,fun w=>by simp [binOp,Op.intDiv,c],.int _ _⟩
 ·split at h
  ·simp at h
  ·rename_i c;simp at h;subst h;exact ⟨_,fun w=>by simp [binOp,Op.intDiv,c],.int _ _⟩
 ·subst h;exact ⟨_,fun w=>by simp [binOp,Op.intBits],.int _ _⟩
 ·subst h;exact ⟨_,fun w=>by simp [binOp,Op.intBits],.int _ _⟩
 ·subst h;exact ⟨_,fun w=>by simp [binOp,Op.intBits],.int _ _⟩
 ·subst h;exact ⟨_,fun w=>by simp [binOp,Op.intBits],.int _ _⟩
 ·subst h;exact ⟨_,fun w=>by simp [binOp,Op.intCmp,fD],.bool _⟩
 ·subst h;exact ⟨_,fun w=>by simp [binOp,Op.intCmp,fD,bne],.bool _⟩
 ·subst h;exact ⟨_,fun w=>by simp [binOp,Op.intCmp],.bool _⟩
 ·subst h;exact ⟨_,fun w=>by simp [binOp,Op.intCmp],.bool _⟩
 ·subst h;exact ⟨_,fun w=>by simp [binOp,Op.intCmp],.bool _⟩
 ·subst h;exact ⟨_,fun w=>by simp [binOp,Op.intCmp],.bool _⟩
theorem aDt {op:BinOp} {a b:List Nat} {A B:ByteArray} {v:AV} (h:GQ op a b=some v) (c:A.data.toList.map (·.toNat)=a) (d:B.data.toList.map (·.toNat)=b) (t:TypeId):
 ∃ V,(∀ w,(binOp op t (.string A) (.string B)).run P w=.ok V w)/\VR σ v V:=by
 have k:=ByteArray.toList_eq A;have l:=ByteArray.toList_eq B;cases op<;>simp only [GQ,reduceCtorEq,Option.some.injEq]at h
 ·rw [eI]at h
  split at h
  ·rename_i m
   simp at h;subst h;refine ⟨.string (A++B),fun w=>?_,.str _ _ ?_⟩
   ·have e:=qJ c
    have f:=qJ d
    have:¬ (((A.size+B.size:Nat):Int) > IntKind.i64.max):=by
     rw [e,f];simp [IntKind.max,IntKind.signed,IntKind.bits];omega
    simp only [binOp,Op.stringOp,if_neg this];rfl
   ·rw [<-c,<-d];simp
  ·simp at h
 all_goals (subst h;refine ⟨_,fun w=>?_,.bool _⟩;rw [<-c,<-d];simp only [binOp,Op.stringOp,k,l,zB,RR];rfl)
end
end Go.Abs
/-
 The abstract machine: operators,conversions,composite values.
-/
namespace Go.Abs
section
variable {P:Program} {σ:Sg} {S:Sto} {w:World}
theorem JQ {d:Nat} {op:BinOp} {t:TypeId} {x y:Operand} {a b:AV} {A B:Value} {r:Bool} (c:op=.eql∨op=.neq) (h:pJ P op t x y a b=true) (q:SB P (d+1) t a b=some r) (f:VR σ a A) (k:VR σ b B) (w:World):
 (eqGuard op t x y A B).run P w=.ok () w:=by
 simp only [SB]at q
 split at q<;>first
  | (rename_i l
     cases f;cases k
     rcases c with rfl | rfl
     ·simp [eqGuard]
     ·simp [eqGuard])
  | skip
 ·rename_i l
  cases f;cases k
  rcases c with rfl | rfl
  ·simp only [pJ,Bool.or_eq_true]at h
   cases x<;>cases y<;>simp [eqGuard]at h ⊢
  ·simp only [pJ,Bool.or_eq_true]at h
   cases x<;>cases y<;>simp [eqGuard]at h ⊢
 ·rename_i xs u l
  obtain ⟨m,rfl,_⟩:=VR.agg_iff.1 f;obtain ⟨o,rfl,_⟩:=VR.agg_iff.1 k;refine run_eqGuard_agg w op t x y m o ?_
  rcases c with rfl | rfl<;>simpa [pJ] using h
 ·rename_i xs u l
  obtain ⟨m,rfl,_⟩:=VR.agg_iff.1 f;obtain ⟨o,rfl,_⟩:=VR.agg_iff.1 k;refine run_eqGuard_agg w op t x y m o ?_
  rcases c with rfl | rfl<;>simpa [pJ] using h
 ·obtain ⟨rfl,⟨e,l⟩,⟨a,n,C,rfl,rfl⟩ | ⟨a,n,C,rfl,rfl⟩⟩:=AS q f k
  ·rcases c with rfl | rfl<;>simp [eqGuard]
  ·rcases c with rfl | rfl<;>simp [eqGuard]
theorem JR {d:Nat} (q:d+1=Op.maxDepth) {t:TypeId} {a b:AV} {A B:Value} {r:Bool} (c:SB P (d+1) t a b=some r) (h:VR σ a A) (k:VR σ b B) (w:World):
 (binOp .eql t A B).run P w=.ok (.bool r) w/\(binOp .neq t A B).run P w=.ok (.bool (!r)) w:=by
 have v:=aRv (d+1) t a b r A B c h k w
 have f:(Op.equal t A B).run P w=.ok r w:=by rw [Op.equal,<-q];exact v
 simp only [SB]at c
 split at c<;>first
  | (cases c;done)
  | (rename_i o;cases h;cases k;constructor<;>(simp [binOp,f];done))
  | skip
 ·rename_i o
  cases h;cases k;rw [oP]at c;split at c
  ·rename_i u;subst u
   simp at c;subst c;simp [binOp,Op.intCmp,fD,bne]
  ·simp at c
 ·rename_i o
  obtain ⟨y,rfl,l⟩:=cD h;obtain ⟨D,rfl,m⟩:=cD k;simp at c;subst c;simp only [binOp,Op.stringOp,<-l,<-m,zB,ByteArray.toList_eq];exact ⟨rfl,rfl⟩
 ·obtain ⟨rfl,⟨e,o⟩,⟨a,n,C,rfl,rfl⟩ | ⟨a,n,C,rfl,rfl⟩⟩:=AS c h k
  ·constructor<;>simp [binOp,f]
  ·constructor<;>simp [binOp,f]
theorem aOn {op:BinOp} {t:TypeId} {x y:Operand} {a b v:AV} {A B:Value} (h:abin P op t x y a b=some v) (c:VR σ a A) (e:VR σ b B):
 ∃ V,(∀ w,(do eqGuard op t x y A B;binOp op t A B:Sem Value).run P w=.ok V w)/\VR σ v V:=by
 unfold abin at h;split at h
 ·cases c;cases e
  rw [oP]at h;split at h
  ·simp at h
  ·rename_i C
   rw [jY]at h;simp at h;subst h;exact ⟨_,fun w=>by simp [uE,binOp,Op.shift,C],.int _ _⟩
 ·cases c;cases e
  rw [oP]at h;split at h
  ·simp at h
  ·rename_i C
   rw [jY]at h;simp at h;subst h;exact ⟨_,fun w=>by simp [uE,binOp,Op.shift,C],.int _ _⟩
 ·rename_i op k a I b D E
  cases c;cases e;rw [oP]at h;split at h
  ·rename_i F;subst F
   obtain ⟨V,m,o⟩:=aDs (P:=P) (σ:=σ) h D E t;exact ⟨V,fun w=>by simp [uE,m],o⟩
  ·simp at h
 ·obtain ⟨G,rfl,q⟩:=cD c
  obtain ⟨H,rfl,u⟩:=cD e;obtain ⟨V,m,o⟩:=aDt (P:=P) (σ:=σ) h q u t;exact ⟨V,fun w=>by simp [RT,m],o⟩
 ·cases f:pJ P .eql t x y a b with
  | false=>simp [f]at h
  | true=>
    simp only [f,cond_true]at h;split at h
    ·rename_i r l
     simp at h;subst h;exact ⟨_,fun w=>by simp [JQ (d:=9999) (.inl rfl) f l c e w,(JR (d:=9999) rfl l c e w).1],.bool _⟩
    ·simp at h
 ·cases f:pJ P .neq t x y a b with
  | false=>simp [f]at h
  | true=>
    simp only [f,cond_true]at h;split at h
    ·rename_i r l
     simp at h;subst h;exact ⟨_,fun w=>by simp [JQ (d:=9999) (.inr rfl) f l c e w,(JR (d:=9999) rfl l c e w).2],.bool _⟩
    ·simp at h
 ·simp at h
theorem aRw {op:UnOp} {a v:AV} {A:Value} (h:aun op a=some v) (b:VR σ a A):∃ V,(∀ w,(Op.unary op A).run P w=.ok V w)/\VR σ v V:=by
 unfold aun at h;split at h
 ·cases b;rw [jY]at h;simp at h;subst h;exact ⟨_,fun w=>by simp [Op.unary,Op.intArith],.int _ _⟩
 ·cases b;rw [jY]at h;simp at h;subst h;exact ⟨_,fun w=>by simp [Op.unary,Op.intBits],.int _ _⟩
 ·cases b;simp at h;subst h;exact ⟨_,fun w=>by simp [Op.unary],.bool _⟩
 ·simp at h
theorem NL (f:Nat->Option (Nat × Nat)):∀ (b:List (Nat × AV)) (a:List (Nat × Value)) (cs d:List AV) (r:Array Value),fK f cs b=some d->VRs σ cs r.toList->
 b.length=a.length->(∀ (i:Nat) n x N X,b[i]?=some (n,x)->a[i]?=some (N,X)->n=N/\VR σ x X)->cs.all AV.isCell=true->
 ∃ B,Instr.fill f r a=some B/\VRs σ d B.toList/\d.all AV.isCell=true/\d.length=cs.length:=by
 intro b
 induction b with
 | nil=>
   intro a cs d r h u U _ m
   cases a with
   | cons _ _=>simp at U
   | nil=>simp [fK]at h;subst h;exact ⟨r,rfl,u,m,rfl⟩
 | cons p b ih=>
   intro a cs d r h u U hp m
   cases a with
   | nil=>simp at U
   | cons Q a=>
     obtain ⟨n,x⟩:=p;obtain ⟨N,X⟩:=Q;obtain ⟨rfl,hx⟩:=hp 0 n x N X rfl rfl;simp only [fK]at h
     cases I:f n with
     | none=>simp [I]at h
     | some q=>
       obtain ⟨off,size⟩:=q;simp only [I]at h
       cases T:(Nat.beq x.cells.length size&&Nat.ble (off+size) cs.length&&x.cells.all AV.isCell) with
       | false=>simp [T]at h
       | true=>
         simp only [T,cond_true]at h;simp only [Bool.and_eq_true,Nat.beq_eq,Nat.ble_eq]at T;obtain ⟨⟨h1,h2⟩,h3⟩:=T;have O:=VR.cells hx (kZ h3)
         have J:X.cells.size=size:=by rw [<-h1,O.1];simp
         have ac:cs.length=r.size:=by rw [u.1];simp
         let E:Array Value:=X.cells.zipIdx.foldl (fun cs (c,j)=>cs.setIfInBounds (off+j) c) r
         have G:∀ (l:List Value) (o:Nat) (A:Array Value),off+o+l.length<=A.size->
          ((l.zipIdx o).foldl (fun cs (c,j)=>cs.setIfInBounds (off+j) c) A).size=A.size/\
          ∀ k:Nat,((l.zipIdx o).foldl (fun cs (c,j)=>cs.setIfInBounds (off+j) c) A)[k]?=if off+o<=k/\k<off+o+l.length then l[k-(off+o)]? else A[k]?:=by
          intro l
          induction l with
          | nil=>intro o A _;exact ⟨rfl,fun k=>by rw [if_neg (by simp)];rfl⟩
          | cons c l ab=>
            intro o A hA;simp only [List.length_cons]at hA;simp only [List.zipIdx_cons,List.foldl_cons];obtain ⟨V,Z⟩:=ab (o+1) (A.setIfInBounds (off+o) c) (by simp;omega);refine ⟨by rw [V];simp,fun k=>?_⟩;rw [Z,Array.getElem?_setIfInBounds];simp only [List.length_cons];by_cases hk:k=off+o
            ·subst hk
             have:off+o<A.size:=by omega
             simp [this];intro h;omega
            ·by_cases H:off+(o+1)<=k/\k<off+(o+1)+l.length
             ·rw [if_pos H,if_pos (by omega),show k-(off+o)=(k-(off+(o+1)))+1 by omega];simp
             ·rw [if_neg H,if_neg (fun e=>hk e.symm),if_neg (by omega)]
         have hF:=G X.cells.toList 0 r (by simp [J];omega)
         have R:X.cells.zipIdx.foldl (fun cs (c,j)=>cs.setIfInBounds (off+j) c) r=(X.cells.toList.zipIdx 0).foldl (fun cs (c,j)=>cs.setIfInBounds (off+j) c) r:=by
          rw [<-Array.foldl_toList,Array.toList_zipIdx]
         have C:E=(X.cells.toList.zipIdx 0).foldl (fun cs (c,j)=>cs.setIfInBounds (off+j) c) r:=R
         have M:VRs σ (cs.take off++x.cells++cs.drop (off+size)) E.toList:=by
          refine ⟨by rw [C];simp [hF.1,h1];omega,fun k y Y v D=>?_⟩;rw [C,Array.getElem?_toList,hF.2]at D;simp only [Nat.add_zero,Array.length_toList,J]at D;by_cases aa:k<off
          ·rw [if_neg (by omega)]at D
           rw [List.append_assoc,List.getElem?_append_left (by simp;omega),List.getElem?_take,if_pos aa]at v;exact u.2 k y Y v (by simpa using D)
          ·by_cases H:k<off+size
           ·rw [if_pos (by omega)]at D
            rw [List.append_assoc,List.getElem?_append_right (by simp;omega)]at v
            have L:(cs.take off).length=off:=by simp;omega
            rw [L,List.getElem?_append_left (by omega)]at v;exact O.2 (k-off) y Y v (by simpa using D)
           ·rw [if_neg (by omega)]at D
            have L:(cs.take off).length=off:=by simp;omega
            rw [List.append_assoc,List.getElem?_append_right (by omega),L,List.getElem?_append_right (by omega),List.getElem?_drop]at v;exact u.2 k y Y (by rw [<-v];congr 1;omega) (by simpa using D)
         have F:(cs.take off++x.cells++cs.drop (off+size)).all AV.isCell=true:=by
          simp only [List.all_append,Bool.and_eq_true];refine ⟨⟨List.all_eq_true.2 fun y v=>List.all_eq_true.1 m y (List.mem_of_mem_take v),h3⟩,List.all_eq_true.2 fun y v=>List.all_eq_true.1 m y (List.mem_of_mem_drop v)⟩
         obtain ⟨B,V,Z,e3,e4⟩:=ih a _ d E h M (by simpa using U) (fun i n' x' N' X' e e'=>hp (i+1) n' x' N' X' (by simpa using e) (by simpa using e')) F;refine ⟨B,?_,Z,e3,?_⟩
         ·simp only [Instr.fill,I]
          have:¬ (X.cells.size≠size||decide (off+X.cells.size > r.size))=true:=by simp [J];omega
          rw [if_neg (by simpa using this)];exact V
         ·rw [e4];simp [h1];omega
end
end Go.Abs
